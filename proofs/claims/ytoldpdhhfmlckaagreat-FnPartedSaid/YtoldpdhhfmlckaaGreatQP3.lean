/- What the program's functions compute, and plain facts of it (part 3). No condition beyond those that each theorem states. -/
import Derived.Test.YtoldpdhhfmlckaaGreatQP2
set_option linter.unusedVariables false
set_option linter.unusedSimpArgs false
section
namespace Go.Proofs.YtoldpdhhfmlckaaGreat
open Go.Ev
abbrev S3 := List Cell × List Int × List Int
structure StU (r : Int) (s : S3) (b : List Int) : Prop where
  mesh : qpm r 0 s.1 = true
  ml : s.2.1.length = s.1.length
  tl : s.2.2.length = s.1.length
  bl : (b.length : Int) = r
  mt : qpc s.2.1 s.2.2 = true
  bed : qa3 b = true
  sum : isum s.2.1 ≤ 10000000
theorem StF.toU {r : Int} {l : List Cell} {m t b : List Int} (F : StF r l m t b) : StU r (l, m, t) b := ⟨F.mesh, F.ml, F.tl, F.bl, F.mt, F.bed, F.sum⟩
theorem StU.toF {r : Int} {s : S3} {b : List Int} (U : StU r s b) (h : unb s.1 < 0) : StF r s.1 s.2.1 s.2.2 b := ⟨U.mesh, h, U.ml, U.tl, U.bl, U.mt, U.bed, U.sum⟩
theorem StU.len {r : Int} {s : S3} {b : List Int} (U : StU r s b) : 1 ≤ s.1.length ∧ s.1.length ≤ 128 := qps U.mesh
theorem StU.rr {r : Int} {s : S3} {b : List Int} (U : StU r s b) : 1 ≤ r ∧ r ≤ 8 := ⟨(qpr _ _ _ U.mesh).1, (qpr _ _ _ U.mesh).2.1⟩
theorem StU.at {r : Int} {s : S3} {b : List Int} (U : StU r s b) (i : Nat) : 0 ≤ s.2.1.getD i 0 ∧ s.2.1.getD i 0 ≤ 10000000 ∧ 0 ≤ s.2.2.getD i 0 ∧ s.2.2.getD i 0 ≤ 1000 * s.2.1.getD i 0 := qpd _ _ (by rw [U.ml, U.tl]) U.mt i
theorem StU.id {r : Int} {s : S3} {b : List Int} (U : StU r s b) {i : Nat} (h : i < s.1.length) : idOk (s.1.getD i zz3).1 (s.1.getD i zz3).2.1 (s.1.getD i zz3).2.2 = true := ((qpr _ _ _ U.mesh).2.2.2.1 _ h).2.2
theorem qnw : ∀ (n : Nat) (m t : List Int), qpc m t = true → qpc (m.take n) (t.take n) = true
  | 0, m, t, h => by simp [qpc]
  | n + 1, [], t, h => by simp [qpc]
  | n + 1, x :: m, [], h => by simp [qpc]
  | n + 1, x :: m, y :: t, h => by
    simp only [List.take_succ_cons, qpc, Bool.and_eq_true] at h ⊢
    exact ⟨h.1, h.2.1, qnw n m t h.2.2⟩
theorem qnv : ∀ (n : Nat) (m t : List Int), qpc m t = true → qpc (m.drop n) (t.drop n) = true
  | 0, m, t, h => by simpa using h
  | n + 1, [], t, h => by simp [qpc]
  | n + 1, x :: m, [], h => by cases h' : List.drop n m <;> simp [qpc, h']
  | n + 1, x :: m, y :: t, h => by
    simp only [List.drop_succ_cons, qpc, Bool.and_eq_true] at h ⊢
    exact qnv n m t h.2.2
theorem qnt : ∀ (m t m' t' : List Int), m.length = t.length → qpc m t = true → qpc m' t' = true → qpc (m ++ m') (t ++ t') = true
  | [], [], m', t', _, _, h => h
  | [], _ :: _, _, _, h, _, _ => by simp at h
  | _ :: _, [], _, _, h, _, _ => by simp at h
  | x :: m, y :: t, m', t', hl, h, h' => by
    simp only [List.cons_append, qpc, Bool.and_eq_true] at h ⊢
    exact ⟨h.1, h.2.1, qnt m t m' t' (by simpa using hl) h.2.2 h'⟩
theorem qnu {x y : Int} {m t : List Int} (h1 : 0 ≤ x ∧ x ≤ 10000000) (h2 : 0 ≤ y ∧ y ≤ 1000 * x) (h : qpc m t = true) : qpc (x :: m) (y :: t) = true := by
  simp only [qpc, Bool.and_eq_true, qle]; exact ⟨h1, h2, h⟩
theorem qlj {m : List Int} {i : Nat} (h : i < m.length) : isum (m.take i) + m.getD i 0 + isum (m.drop (i + 1)) = isum m := by
  have e := qgf h 0
  have := congrArg isum e
  rw [qli, isum] at this
  omega
abbrev hA (x : Int) : Int := x - x / 2
abbrev hB (x : Int) : Int := x / 2
theorem hAB {x : Int} (h : 0 ≤ x) : hA x + hB x = x ∧ 0 ≤ hB x ∧ hB x ≤ x ∧ 0 ≤ hA x ∧ hA x ≤ x := by unfold hA hB; omega
def rfM (m : List Int) (i : Nat) : List Int := m.take i ++ hA (m.getD i 0) :: hB (m.getD i 0) :: m.drop (i + 1)
abbrev shr (t m : Int) : Int := qtc t (hA m) m
def rfT (t m : List Int) (i : Nat) : List Int := t.take i ++ shr (t.getD i 0) (m.getD i 0) :: (t.getD i 0 - shr (t.getD i 0) (m.getD i 0)) :: t.drop (i + 1)
def rfS (s : S3) (i : Nat) : S3 := (qtr s.1 i, rfM s.2.1 i, rfT s.2.2 s.2.1 i)
theorem qtj {t m : Int} (hm : 0 ≤ m ∧ m ≤ 10000000) (ht : 0 ≤ t ∧ t ≤ 1000 * m) : (0 ≤ shr t m ∧ shr t m ≤ 1000 * hA m) ∧ 0 ≤ t - shr t m ∧ t - shr t m ≤ 1000 * hB m := by
  have q := hAB hm.1
  have p1 := (qte t (hA m) m).1
  have p2 := qtf (t := t) (p := hA m) (m := m) ht.1 (by omega) ht.2
  by_cases h0 : m = 0
  · subst h0
    have : t = 0 := by omega
    subst this
    have p3 : shr 0 0 = 0 := by unfold shr; omega
    rw [p3] at *
    exact ⟨⟨by omega, by omega⟩, by omega, by omega⟩
  · have e : shr t m = (t * hA m) / m := by
      unfold shr qtc
      rw [show inR m 1 10000000 = true from qle.2 (by omega), show inR (hA m) 0 m = true from qle.2 (by omega), show inR t 0 (1000 * m) = true from qle.2 ht]
      simp only [Bool.and_self, qgc]
      exact Int.tdiv_eq_ediv_of_nonneg (Int.mul_nonneg ht.1 (by omega))
    refine ⟨⟨p1, p2⟩, ?_, ?_⟩
    · have : (t * hA m) / m ≤ t := by
        apply Int.ediv_le_of_le_mul (by omega)
        exact Int.mul_le_mul_of_nonneg_left (by omega) ht.1
      omega
    · have hx : t * hB m ≤ 1000 * m * hB m := Int.mul_le_mul_of_nonneg_right ht.2 (by omega)
      have hs : t * hA m + t * hB m = t * m := by rw [← Int.mul_add, q.1]
      have h2 : (t - 1000 * hB m) * m ≤ t * hA m := by
        rw [Int.sub_mul, Int.mul_right_comm 1000 (hB m) m]
        rw [show 1000 * m * hB m = 1000 * m * hB m from rfl] at hx
        omega
      have : t - 1000 * hB m ≤ (t * hA m) / m := (Int.le_ediv_iff_mul_le (by omega)).2 h2
      omega
theorem qrh {m : List Int} {i : Nat} (h : i < m.length) : (rfM m i).length = m.length + 1 := by
  simp only [rfM, List.length_append, List.length_take, List.length_cons, List.length_drop]; omega
theorem qrj {t m : List Int} {i : Nat} (h : i < t.length) : (rfT t m i).length = t.length + 1 := by
  simp only [rfT, List.length_append, List.length_take, List.length_cons, List.length_drop]; omega
theorem qri {m : List Int} {i : Nat} (h : i < m.length) (h0 : 0 ≤ m.getD i 0) : isum (rfM m i) = isum m := by
  have := qlj h; have := hAB h0
  simp only [rfM, qli, isum]
  omega
theorem qrk {t m : List Int} {i : Nat} (h : i < t.length) : isum (rfT t m i) = isum t := by
  have := qlj h
  simp only [rfT, qli, isum]
  omega
theorem rf_U {r : Int} {s : S3} {b : List Int} (U : StU r s b) {i : Nat} (hi : i < s.1.length) (hl : qnj s.1 i < 4) : StU r (rfS s i) b := by
  have a := U.at i; have ml := U.ml; have tl := U.tl; have q := hAB a.1
  have sh := qtj ⟨a.1, a.2.1⟩ ⟨a.2.2.1, a.2.2.2⟩
  refine ⟨qtu U.mesh hi hl, ?_, ?_, U.bl, ?_, U.bed, ?_⟩
  · show (rfM s.2.1 i).length = (qtr s.1 i).length
    rw [qrh (by omega), qts hi]; omega
  · show (rfT s.2.2 s.2.1 i).length = (qtr s.1 i).length
    rw [qrj (by omega), qts hi]; omega
  · exact qnt _ _ _ _ (by rw [List.length_take, List.length_take]; omega) (qnw i _ _ U.mt) (qnu (by omega) sh.1 (qnu (by omega) sh.2 (qnv _ _ _ U.mt)))
  · show isum (rfM s.2.1 i) ≤ _
    rw [qri (by omega) a.1]; exact U.sum
def cmM (m : List Int) (i : Nat) : List Int := m.take i ++ (m.getD i 0 + m.getD (i + 1) 0) :: m.drop (i + 2)
def cmS (s : S3) (i : Nat) : S3 := (qpi s.1 i, cmM s.2.1 i, cmM s.2.2 i)
theorem qf5 {m : List Int} {i : Nat} (h : i + 1 < m.length) : (cmM m i).length + 1 = m.length := by
  simp only [cmM, List.length_append, List.length_take, List.length_cons, List.length_drop]; omega
theorem qlk {m : List Int} {i : Nat} (h : i + 1 < m.length) : isum (m.take i) + m.getD i 0 + m.getD (i + 1) 0 + isum (m.drop (i + 2)) = isum m := by
  have e := qlj (show i < m.length by omega)
  rw [qgl h 0, isum, show i + 1 + 1 = i + 2 from rfl] at e
  omega
theorem qf6 {m : List Int} {i : Nat} (h : i + 1 < m.length) : isum (cmM m i) = isum m := by
  have := qlk h
  simp only [cmM, qli, isum]
  omega
theorem qln {m : List Int} (h : ∀ x ∈ m, 0 ≤ x) : 0 ≤ isum m := by
  induction m with
  | nil => simp [isum]
  | cons x m ih => have := h x (by simp); have := ih fun y hy => h y (by simp [hy]); simp only [isum]; omega
theorem cm_U {r : Int} {s : S3} {b : List Int} (U : StU r s b) {i : Nat} (hi : i + 1 < s.1.length) (hs : sib (s.1.getD i zz3) (s.1.getD (i + 1) zz3) = true) : StU r (cmS s i) b := by
  have a := U.at i; have a' := U.at (i + 1); have ml := U.ml; have tl := U.tl
  have mem := qpe _ _ (by rw [ml, tl]) U.mt
  have s1 := qln (m := s.2.1.take i) fun x hx => (mem.1 x (List.mem_of_mem_take hx)).1
  have s2 := qln (m := s.2.1.drop (i + 2)) fun x hx => (mem.1 x (List.mem_of_mem_drop hx)).1
  have s3 := qlk (m := s.2.1) (i := i) (by omega)
  have s4 := U.sum
  refine ⟨qpk U.mesh hi hs, ?_, ?_, U.bl, ?_, U.bed, ?_⟩
  · show (cmM s.2.1 i).length = (qpi s.1 i).length
    have h1 := qf5 (m := s.2.1) (i := i) (by omega); have h2 := qpj hi; omega
  · show (cmM s.2.2 i).length = (qpi s.1 i).length
    have h1 := qf5 (m := s.2.2) (i := i) (by omega); have h2 := qpj hi; omega
  · exact qnt _ _ _ _ (by rw [List.length_take, List.length_take]; omega) (qnw i _ _ U.mt) (qnu (by omega) (by omega) (qnv _ _ _ U.mt))
  · show isum (cmM s.2.1 i) ≤ _
    rw [qf6 (by omega)]; exact U.sum
def lvS : Nat → S3 → S3
  | 0, s => s
  | n + 1, s => if unb s.1 < 0 then s else lvS n (rfS s (qf7 s.1 (unb s.1).toNat))
theorem qnr {r : Int} {b : List Int} : ∀ (n : Nat) (s : S3), StU r s b → 129 ≤ n + s.1.length → StU r (lvS n s) b ∧ unb (lvS n s).1 < 0
  | 0, s, U, hn => by have := U.len; omega
  | n + 1, s, U, hn => by
    unfold lvS
    by_cases g : unb s.1 < 0
    · rw [if_pos g]; exact ⟨U, g⟩
    · rw [if_neg g]
      obtain ⟨j, e, h1, h2⟩ := qu9 (by omega : 0 ≤ unb s.1)
      have c := qf8 U.mesh h1 h2
      rw [e, Int.toNat_natCast]
      exact qnr n _ (rf_U U c.1 c.2) (by show 129 ≤ n + (qtr s.1 _).length; rw [qts c.1]; omega)
def spS (w : List Int) : Nat → S3 → S3
  | 0, s => s
  | n + 1, s => spS w n (if w.getD n 0 = 1 then rfS s n else s)
def mayC (l : List Cell) (i : Nat) : Bool := sib (l.getD i zz3) (l.getD (i + 1) zz3) && ((decide (i = 0) || decide (qnj l (i - 1) ≤ qnj l i)) && (decide (l.length ≤ i + 2) || decide (qnj l (i + 2) ≤ qnj l i)))
def mgS (P : Cell → Bool) : Nat → Nat → S3 → S3
  | 0, i, s => s
  | n + 1, i, s => if i + 1 < s.1.length then mgS P n (i + 1) (if (P (s.1.getD i zz3) && (P (s.1.getD (i + 1) zz3) && mayC s.1 i)) = true then cmS s i else s) else s
theorem qtt {l : List Cell} {i j : Nat} (hi : i < l.length) (h : j < i) : (qtr l i).getD j zz3 = l.getD j zz3 := by
  unfold qtr
  simp only [List.getD_eq_getElem?_getD]
  rw [List.getElem?_append_left (by rw [List.length_take]; omega), List.getElem?_take, if_pos h]
theorem qtp {r : Int} {b : List Int} (w : List Int) (l0 : List Cell) (hw : ∀ j, w.getD j 0 = 1 → qnj l0 j < 4) : ∀ (n : Nat) (s : S3), StU r s b → n ≤ s.1.length → (∀ j, j < n → s.1.getD j zz3 = l0.getD j zz3) → StU r (spS w n s) b
  | 0, s, U, hn, he => U
  | n + 1, s, U, hn, he => by
    unfold spS
    by_cases g : w.getD n 0 = 1
    · rw [if_pos g]
      have hl : qnj s.1 n < 4 := by have := hw n g; unfold qnj at *; rw [he n (by omega)]; exact this
      exact qtp w l0 hw n _ (rf_U U (by omega) hl) (by show n ≤ (qtr s.1 n).length; rw [qts (by omega)]; omega) fun j hj => by
        show (qtr s.1 n).getD j zz3 = _
        rw [qtt (by omega) hj]; exact he j (by omega)
    · rw [if_neg g]
      exact qtp w l0 hw n s U (by omega) fun j hj => he j (by omega)
theorem qpu {r : Int} {b : List Int} (P : Cell → Bool) : ∀ (n i : Nat) (s : S3), StU r s b → StU r (mgS P n i s) b
  | 0, i, s, U => U
  | n + 1, i, s, U => by
    unfold mgS
    by_cases g : i + 1 < s.1.length
    · rw [if_pos g]
      by_cases h : (P (s.1.getD i zz3) && (P (s.1.getD (i + 1) zz3) && mayC s.1 i)) = true
      · rw [if_pos h]
        simp only [Bool.and_eq_true, mayC] at h
        exact qpu P n (i + 1) _ (cm_U U g h.2.2.1)
      · rw [if_neg h]; exact qpu P n (i + 1) s U
    · rw [if_neg g]; exact U
theorem qpl {l : List Cell} {i : Nat} (hi : i + 1 < l.length) (hu : unb l < 0) (hm : mayC l i = true) (h1 : 1 ≤ qnj l i) : unb (qpi l i) < 0 := by
  have ml := qpj hi
  simp only [mayC, Bool.and_eq_true, Bool.or_eq_true, decide_eq_true_eq, sib] at hm
  obtain ⟨⟨_, _, _, hlev, _⟩, hlo, hhi⟩ := hm
  rw [qva] at hu ⊢
  have lv : ∀ j, qnj (qpi l i) j = if j < i then qnj l j else if j = i then qnj l i - 1 else qnj l (j + 1) := fun j => by
    unfold qpi qnj
    simp only [List.getD_eq_getElem?_getD]
    by_cases g : j < i
    · rw [if_pos g, List.getElem?_append_left (by rw [List.length_take]; omega), List.getElem?_take, if_pos g]
    · rw [if_neg g, List.getElem?_append_right (by rw [List.length_take]; omega), List.length_take, Nat.min_eq_left (by omega)]
      by_cases g2 : j = i
      · subst g2; rw [if_pos rfl, Nat.sub_self]; simp [par]
      · rw [if_neg g2, show j - i = (j - i - 1) + 1 by omega, List.getElem?_cons_succ, List.getElem?_drop]
        congr 4; omega
  intro j hj
  have hj' : j + 1 < l.length - 1 := by omega
  rw [lv, lv]
  have hu1 := fun q (hq : q + 1 < l.length) => hu q hq
  have hle : qnj l i = qnj l (i + 1) := hlev
  by_cases g : j + 1 < i
  · rw [if_pos (by omega), if_pos g]; exact hu j (by omega)
  by_cases g1 : j + 1 = i
  · rw [if_pos (by omega), if_neg (by omega), if_pos g1]
    have := hu j (by omega)
    rw [g1] at this
    rcases hlo with h | h
    · omega
    · rw [show i - 1 = j by omega] at h; omega
  by_cases g2 : j = i
  · subst g2
    rw [if_neg (by omega), if_pos rfl, if_neg (by omega), if_neg (by omega)]
    have := hu (j + 1) (by omega)
    rcases hhi with h | h
    · omega
    · rw [show j + 1 + 1 = j + 2 by omega] at *; omega
  · rw [if_neg (by omega), if_neg (by omega), if_neg (by omega), if_neg (by omega)]; exact hu (j + 1) (by omega)
theorem qtk {a b : Cell} (h : sib a b = true) : 1 ≤ a.2.1 := by
  simp only [sib, Bool.and_eq_true, decide_eq_true_eq] at h
  obtain ⟨h1, h2, h3, h4, h5, h6⟩ := h
  rw [← h3, ← h4, h6] at h2
  exact (qqi h1 h2 h5).1
theorem qpw (P : Cell → Bool) : ∀ (n i : Nat) (s : S3), unb s.1 < 0 → unb (mgS P n i s).1 < 0
  | 0, i, s, U => U
  | n + 1, i, s, U => by
    unfold mgS
    by_cases g : i + 1 < s.1.length
    · rw [if_pos g]
      by_cases h : (P (s.1.getD i zz3) && (P (s.1.getD (i + 1) zz3) && mayC s.1 i)) = true
      · rw [if_pos h]
        simp only [Bool.and_eq_true] at h
        have h2 := h.2.2
        simp only [mayC, Bool.and_eq_true] at h2
        exact qpw P n (i + 1) _ (qpl g U h.2.2 (qtk h2.1))
      · rw [if_neg h]; exact qpw P n (i + 1) s U
    · rw [if_neg g]; exact U
end Go.Proofs.YtoldpdhhfmlckaaGreat
end
section
namespace Go.Proofs.YtoldpdhhfmlckaaGreat
open Go.Ev
set_option maxRecDepth 20000
theorem qu5 (o : Bool) (d0 d1 d2 d3 : D) (l : List D) : (D.ptr o (d0 :: d1 :: d2 :: d3 :: l)).cell 3 = d3 := Eq.trans rfl rfl
theorem qu6 (o : Bool) (d0 d1 d2 d3 d4 : D) (l : List D) : (D.ptr o (d0 :: d1 :: d2 :: d3 :: d4 :: l)).cell 4 = d4 := Eq.trans rfl rfl
theorem qd1 (k : Nat) (hk : 2000000 ≤ k) (a : Int) (h : 0 ≤ a) (h' : a ≤ 1000000000) : go (k + 1) spec_SplitEven [(.int .i64 (a))] = some [.int .i64 (hA a), .int .i64 (hB a)] := by
  rw [qjb]
  have e : Int.tdiv a 2 = a / 2 := Int.tdiv_eq_ediv_of_nonneg h
  rw [e]
  simp (disch := omega) only [dF, qvt, qga]
theorem qbx (k : Nat) (hk : 2000000 ≤ k) (a : Int) (h : 0 ≤ a) (h' : a ≤ 1000000000) : go (k + 1) impl_SplitEven [(.int .i64 (a))] = some [.int .i64 (hA a), .int .i64 (hB a)] := by
  rw [qhf]
  have e : Int.tdiv a 2 = a / 2 := Int.tdiv_eq_ediv_of_nonneg h
  rw [e]
  simp (disch := omega) only [dF, qvt, qga]
theorem qev (k : Nat) (hk : 2000000 ≤ k) (r : Int) (s : S3) (b : List Int) (U : StU r s b) (i : Nat) (hi : i < s.1.length) (hv : qnj s.1 i < 4) :
    go (k + 5) spec_l08Split [.agg [.int .i64 (r), .arr false (false) (.r3 (s.1)), .arr false (false) (.ints .i64 (s.2.1)), .arr false (false) (.ints .i64 (s.2.2)), .arr false (false) (.ints .i64 (b))], .int .i64 (i : Int)] = some [.agg [.int .i64 (r), .arr true (false) (.r3 ((rfS s i).1)), .arr true (false) (.ints .i64 ((rfS s i).2.1)), .arr true (false) (.ints .i64 ((rfS s i).2.2)), .arr true (false) (.ints .i64 (b))]] := by
  obtain ⟨l, m, t⟩ := s
  simp only at hi hv ⊢
  rw [qj1]
  have L := U.len; have ml : m.length = l.length := U.ml; have tl : t.length = l.length := U.tl; have bl := U.bl; have rr := U.rr
  have a : 0 ≤ m.getD i 0 ∧ m.getD i 0 ≤ 10000000 ∧ 0 ≤ t.getD i 0 ∧ t.getD i 0 ≤ 1000 * m.getD i 0 := U.at i
  simp only at L
  have q := hAB a.1
  have sh := qtj ⟨a.1, a.2.1⟩ ⟨a.2.2.1, a.2.2.2⟩
  simp only [shr] at sh
  have m1 : (m.take i).length = i := by rw [List.length_take]; omega
  have t1 : (t.take i).length = i := by rw [List.length_take]; omega
  have l2 : ∀ (x : List Int) (p q : Int), x.length = i → (x ++ [p, q]).length = i + 2 := fun x p q h => by rw [List.length_append, h]; rfl
  have m2 := fun p q => l2 (m.take i) p q m1
  have t2 := fun p q => l2 (t.take i) p q t1
  have m3 : ∀ p q : Int, (m.take i ++ [p, q] ++ m.drop (i + 1)).length = l.length + 1 := fun p q => by rw [List.length_append, m2, List.length_drop]; omega
  have t3 : ∀ p q : Int, (t.take i ++ [p, q] ++ t.drop (i + 1)).length = l.length + 1 := fun p q => by rw [List.length_append, t2, List.length_drop]; omega
  have cS := qeo k (by omega) r false l i (by omega) hi (U.id hi) hv
  simp (disch := omega) only [dT, nI, Bool.and_true, Int.toNat_natCast, qd1, qd0, ton0, Nat.sub_zero, Nat.zero_add, List.drop_zero, qp2, m1, big0, m2, t1, t2, cS, qfg, qvt, qus, m3, t3, Bool.false_and, dF, Bool.and_false, qgc, qa6, nth0, qfi, qu2, qfj, qp3, qqu, nth1]
  rw [List.append_assoc, List.append_assoc]
  rfl
theorem qbr (k : Nat) (hk : 2000000 ≤ k) (r : Int) (l : List Cell) (h : qpm r 0 l = true) (i : Nat) (hi : i < l.length) (hv : qnj l i < 4) :
    go (k + 2) impl_Mesh_refine [.ptr true [.int .i64 r, .arr true false (.r3 l)], .int .i64 (i : Int)] = some [.ptr true [.int .i64 r, .arr true false (.r3 (qtr l i))]] := by
  rw [qg6]
  have L := qps h
  have id := qlb.1 ((qpr _ _ _ h).2.2.2.1 _ hi).2.2
  have hp : pow2 (l.getD i zz3).2.1 ≤ 16 := by
    rcases lev (qle.2 id.2.1) with e | e | e | e | e <;> rw [e] <;> decide
  have eR := qdg k false false l [ch0 (l.getD i zz3), ch1 (l.getD i zz3)] (i : Int) ((i + 1 : Nat) : Int) (by omega) (by omega) (by omega) (by simp) (by simp <;> omega) (by omega) (by simp)
  rw [Int.toNat_natCast, Int.toNat_natCast] at eR
  simp only [qnj] at hv
  simp (disch := omega) only [dT, nI, Bool.and_true, Int.toNat_natCast, qh6, qvt, Int.add_zero, qfg, qa6, nth0, qfi, qu2, qfj, qfu, eR, qp3, qqu, qgc]
  rw [List.append_assoc]; rfl
theorem qcy (k : Nat) (hk : 2000000 ≤ k) (r : Int) (s : S3) (b : List Int) (U : StU r s b) (i : Nat) (hi : i < s.1.length) (hv : qnj s.1 i < 4) :
    go (k + 3) impl_State_refine [.ptr true [.int .i64 (r), .arr true (false) (.r3 (s.1)), .arr true (false) (.ints .i64 (s.2.1)), .arr true (false) (.ints .i64 (s.2.2)), .arr true (false) (.ints .i64 (b))], .int .i64 (i : Int)] = some [.ptr true [.int .i64 (r), .arr true (false) (.r3 ((rfS s i).1)), .arr true (false) (.ints .i64 ((rfS s i).2.1)), .arr true (false) (.ints .i64 ((rfS s i).2.2)), .arr true (false) (.ints .i64 (b))]] := by
  obtain ⟨l, m, t⟩ := s
  simp only at hi hv ⊢
  rw [qhw]
  have L := U.len; have ml : m.length = l.length := U.ml; have tl : t.length = l.length := U.tl; have bl := U.bl; have rr := U.rr
  have a : 0 ≤ m.getD i 0 ∧ m.getD i 0 ≤ 10000000 ∧ 0 ≤ t.getD i 0 ∧ t.getD i 0 ≤ 1000 * m.getD i 0 := U.at i
  simp only at L
  have q := hAB a.1
  have sh := qtj ⟨a.1, a.2.1⟩ ⟨a.2.2.1, a.2.2.2⟩
  simp only [shr] at sh
  have eM := qbr k (by omega) r l U.mesh i hi hv
  have e1 := qdh (k + 1) false false m [hA (m.getD i 0), hB (m.getD i 0)] (i : Int) ((i + 1 : Nat) : Int) (by omega) (by omega) (by omega) (by simp) (by simp <;> omega) (by omega) (by simp)
  have e2 := qdh (k + 1) false false t [qtc (t.getD i 0) (hA (m.getD i 0)) (m.getD i 0), t.getD i 0 - qtc (t.getD i 0) (hA (m.getD i 0)) (m.getD i 0)] (i : Int) ((i + 1 : Nat) : Int) (by omega) (by omega) (by omega) (by simp) (by simp <;> omega) (by omega) (by simp)
  rw [Int.toNat_natCast, Int.toNat_natCast] at e1 e2
  simp (disch := omega) only [dT, nI, Bool.and_true, Int.toNat_natCast, qbx, qbw, eM, qfg, qvt, qgc, qa6, nth0, qqr, qu2, qqs, qp3, qqu, nth1, e1, e2, qlg]
  rw [List.append_assoc, List.append_assoc]
  rfl
theorem qbe {a : Cell} (hid : idOk a.1 a.2.1 a.2.2 = true) (hv : 1 ≤ a.2.1) : (∀ (k : Nat), 2000000 ≤ k → go (k + 3) spec_ParentOf [.agg [.int .i64 a.1, .int .i64 a.2.1, .int .i64 a.2.2]] = some [.agg [.int .i64 (par a).1, .int .i64 (par a).2.1, .int .i64 (par a).2.2], .bool true]) ∧
    (∀ (k : Nat), 2000000 ≤ k → go (k + 4) impl_ParentOf [.agg [.int .i64 a.1, .int .i64 a.2.1, .int .i64 a.2.2]] = some [.agg [.int .i64 (par a).1, .int .i64 (par a).2.1, .int .i64 (par a).2.2], .bool true]) := by
  have id := qlb.1 hid
  have hp : pow2 a.2.1 ≤ 16 := by
    rcases lev (qle.2 id.2.1) with e | e | e | e | e <;> rw [e] <;> decide
  have e : Int.tdiv a.2.2 2 = a.2.2 / 2 := Int.tdiv_eq_ediv_of_nonneg id.2.2.1
  refine ⟨fun k hk => ?_, fun k hk => ?_⟩
  · rw [qi8]; simp (disch := omega) only [qdr, hid, bit, dF, qvt, e, qga, qa6, nth0, qu1, Bool.not_true]
  · rw [qg9]; simp (disch := omega) only [qbk, hid, bit, dF, qvt, e, qga, qa6, nth0, qu1, Bool.not_true]
theorem qeq (k : Nat) (hk : 2000000 ≤ k) (r : Int) (z : Bool) (l : List Cell) (h : qpm r 0 l = true) (i : Nat) (hi : i + 1 < l.length) (hv : 1 ≤ qnj l i) :
    go (k + 4) spec_l06Merge [.agg [.int .i64 r, .arr false z (.r3 l)], .int .i64 (i : Int)] = some [.agg [.int .i64 r, .arr true false (.r3 (qpi l i))]] := by
  rw [qjv]
  have L := qps h
  have eP := (qbe ((qpr _ _ _ h).2.2.2.1 _ (show i < l.length by omega)).2.2 hv).1 k (by omega)
  have m1 : (l.take i).length = i := by rw [List.length_take]; omega
  have m2 : ∀ p : Cell, (l.take i ++ [p]).length = i + 1 := fun p => by rw [List.length_append, m1]; rfl
  have m3 : ∀ p : Cell, (l.take i ++ [p] ++ l.drop (i + 2)).length = l.length - 1 := fun p => by rw [List.length_append, m2, List.length_drop]; omega
  simp (disch := omega) only [dT, nI, Bool.and_true, Int.toNat_natCast, eP, ton0, Nat.sub_zero, Nat.zero_add, List.drop_zero, qp2, m1, big0, m2, qfh, qvt, qus, m3, Bool.false_and, dF, Bool.and_false, qgc, qa6, nth0, qfi, qu2, qfj, qfu]
  rw [List.append_assoc]; rfl
theorem qeu (k : Nat) (hk : 2000000 ≤ k) (r : Int) (s : S3) (b : List Int) (U : StU r s b) (i : Nat) (hi : i + 1 < s.1.length) (hv : 1 ≤ qnj s.1 i) :
    go (k + 5) spec_l08Merge [.agg [.int .i64 (r), .arr false (false) (.r3 (s.1)), .arr false (false) (.ints .i64 (s.2.1)), .arr false (false) (.ints .i64 (s.2.2)), .arr false (false) (.ints .i64 (b))], .int .i64 (i : Int)] = some [.agg [.int .i64 (r), .arr true (false) (.r3 ((cmS s i).1)), .arr true (false) (.ints .i64 ((cmS s i).2.1)), .arr true (false) (.ints .i64 ((cmS s i).2.2)), .arr true (false) (.ints .i64 (b))]] := by
  obtain ⟨l, m, t⟩ := s
  simp only at hi hv ⊢
  rw [qj0]
  have L := U.len; have ml : m.length = l.length := U.ml; have tl : t.length = l.length := U.tl; have bl := U.bl; have rr := U.rr
  have a : 0 ≤ m.getD i 0 ∧ m.getD i 0 ≤ 10000000 ∧ 0 ≤ t.getD i 0 ∧ t.getD i 0 ≤ 1000 * m.getD i 0 := U.at i
  have a' : 0 ≤ m.getD (i + 1) 0 ∧ m.getD (i + 1) 0 ≤ 10000000 ∧ 0 ≤ t.getD (i + 1) 0 ∧ t.getD (i + 1) 0 ≤ 1000 * m.getD (i + 1) 0 := U.at (i + 1)
  simp only at L
  have eM := qeq k (by omega) r false l U.mesh i hi hv
  have m1 : (m.take i).length = i := by rw [List.length_take]; omega
  have t1 : (t.take i).length = i := by rw [List.length_take]; omega
  have m2 : ∀ p : Int, (m.take i ++ [p]).length = i + 1 := fun p => by rw [List.length_append, m1]; rfl
  have t2 : ∀ p : Int, (t.take i ++ [p]).length = i + 1 := fun p => by rw [List.length_append, t1]; rfl
  have m3 : (m.take i ++ [m.getD i 0 + m.getD (i + 1) 0] ++ m.drop (i + 2)).length + 1 = l.length := by rw [List.length_append, m2, List.length_drop]; omega
  have t3 : (t.take i ++ [t.getD i 0 + t.getD (i + 1) 0] ++ t.drop (i + 2)).length + 1 = l.length := by rw [List.length_append, t2, List.length_drop]; omega
  simp (disch := omega) only [dT, Bool.and_true, nI, Int.toNat_natCast, ton0, Nat.sub_zero, Nat.zero_add, List.drop_zero, qp2, m1, big0, qfg, qvt, m2, t1, t2, eM, qfh, qus, Bool.false_and, dF, Bool.and_false, qgc, qa6, nth0, qfi, qu2, qfj, qp3, qqu]
  rw [List.append_assoc, List.append_assoc]
  rfl
theorem qbq (k : Nat) (hk : 2000000 ≤ k) (r : Int) (l : List Cell) (h : qpm r 0 l = true) (i : Nat) (hi : i + 1 < l.length) (hv : 1 ≤ qnj l i) :
    go (k + 5) impl_Mesh_coarsen [.ptr true [.int .i64 r, .arr true false (.r3 l)], .int .i64 (i : Int)] = some [.ptr true [.int .i64 r, .arr true false (.r3 (qpi l i))]] := by
  rw [qg1]
  have L := qps h
  have eP := (qbe ((qpr _ _ _ h).2.2.2.1 _ (show i < l.length by omega)).2.2 hv).2 k (by omega)
  have eR := qdg (k + 3) false false l [par (l.getD i zz3)] (i : Int) ((i + 2 : Nat) : Int) (by omega) (by omega) (by omega) (by simp) (by simp <;> omega) (by omega) (by simp)
  rw [Int.toNat_natCast, Int.toNat_natCast] at eR
  simp (disch := omega) only [dT, nI, Bool.and_true, Int.toNat_natCast, eP, qfh, qvt, qa6, nth0, qfi, qu2, qfj, qfu, eR, qp3, qqu, qgc]
  rw [List.append_assoc]; rfl
theorem qb9 (k : Nat) (hk : 2000000 ≤ k) (r : Int) (s : S3) (b : List Int) (U : StU r s b) (i : Nat) (hi : i + 1 < s.1.length) (hv : 1 ≤ qnj s.1 i) :
    go (k + 6) impl_State_coarsen [.ptr true [.int .i64 (r), .arr true (false) (.r3 (s.1)), .arr true (false) (.ints .i64 (s.2.1)), .arr true (false) (.ints .i64 (s.2.2)), .arr true (false) (.ints .i64 (b))], .int .i64 (i : Int)] = some [.ptr true [.int .i64 (r), .arr true (false) (.r3 ((cmS s i).1)), .arr true (false) (.ints .i64 ((cmS s i).2.1)), .arr true (false) (.ints .i64 ((cmS s i).2.2)), .arr true (false) (.ints .i64 (b))]] := by
  obtain ⟨l, m, t⟩ := s
  simp only at hi hv ⊢
  rw [qhl]
  have L := U.len; have ml : m.length = l.length := U.ml; have tl : t.length = l.length := U.tl; have bl := U.bl; have rr := U.rr
  have a : 0 ≤ m.getD i 0 ∧ m.getD i 0 ≤ 10000000 ∧ 0 ≤ t.getD i 0 ∧ t.getD i 0 ≤ 1000 * m.getD i 0 := U.at i
  have a' : 0 ≤ m.getD (i + 1) 0 ∧ m.getD (i + 1) 0 ≤ 10000000 ∧ 0 ≤ t.getD (i + 1) 0 ∧ t.getD (i + 1) 0 ≤ 1000 * m.getD (i + 1) 0 := U.at (i + 1)
  simp only at L
  have eM := qbq k (by omega) r l U.mesh i hi hv
  have e1 := qdh (k + 4) false false m [m.getD i 0 + m.getD (i + 1) 0] (i : Int) ((i + 2 : Nat) : Int) (by omega) (by omega) (by omega) (by simp) (by simp <;> omega) (by omega) (by simp)
  have e2 := qdh (k + 4) false false t [t.getD i 0 + t.getD (i + 1) 0] (i : Int) ((i + 2 : Nat) : Int) (by omega) (by omega) (by omega) (by simp) (by simp <;> omega) (by omega) (by simp)
  rw [Int.toNat_natCast, Int.toNat_natCast] at e1 e2
  simp (disch := omega) only [eM, dT, nI, Bool.and_true, qfg, qvt, qfh, Int.toNat_natCast, e1, e2, qa6, nth0, qp3, qlg, qgc, qqr, qu2, qqs, qqu]
  rw [List.append_assoc, List.append_assoc]
  rfl
end Go.Proofs.YtoldpdhhfmlckaaGreat
end
section
namespace Go.Proofs.YtoldpdhhfmlckaaGreat
open Go.Ev
set_option maxRecDepth 20000
theorem qbd {a b : Cell} (ha : idOk a.1 a.2.1 a.2.2 = true) (hb : idOk b.1 b.2.1 b.2.2 = true) : (∀ (k : Nat), 2000000 ≤ k → go (k + 3) spec_IsSibling [.agg [.int .i64 a.1, .int .i64 a.2.1, .int .i64 a.2.2], .agg [.int .i64 b.1, .int .i64 b.2.1, .int .i64 b.2.2]] = some [.bool (sib a b)]) ∧
    (∀ (k : Nat), 2000000 ≤ k → go (k + 5) impl_IsSibling [.agg [.int .i64 a.1, .int .i64 a.2.1, .int .i64 a.2.2], .agg [.int .i64 b.1, .int .i64 b.2.1, .int .i64 b.2.2]] = some [.bool (sib a b)]) := by
  have ia := qlb.1 ha; have ib := qlb.1 hb
  have pa : pow2 a.2.1 ≤ 16 := by
    rcases lev (qle.2 ia.2.1) with e | e | e | e | e <;> rw [e] <;> decide
  have ea : Int.tmod a.2.2 2 = a.2.2 % 2 := Int.tmod_eq_emod_of_nonneg ia.2.2.1
  have da : Int.tdiv a.2.2 2 = a.2.2 / 2 := Int.tdiv_eq_ediv_of_nonneg ia.2.2.1
  have db : Int.tdiv b.2.2 2 = b.2.2 / 2 := Int.tdiv_eq_ediv_of_nonneg ib.2.2.1
  have pb : pow2 b.2.1 ≤ 16 := by
    rcases lev (qle.2 ib.2.1) with e | e | e | e | e <;> rw [e] <;> decide
  constructor
  · intro k hk
    rw [qi2]
    simp (disch := omega) only [qdr, ha, bit, hb, ea, qvt, qa6, nth0, qu1, qgc]
    unfold sib
    rw [ha, hb]
    by_cases h1 : a.1 = b.1
    · by_cases h2 : a.2.1 = b.2.1
      · by_cases h3 : a.2.2 % 2 = 0
        · simp (disch := omega) only [dT, qgc, Bool.true_and]
        · simp (disch := omega) only [dT, dF, qga, qgc, Bool.false_and, Bool.and_false]
      · simp (disch := omega) only [dT, dF, qga, qgc, Bool.false_and, Bool.and_false]
    · simp (disch := omega) only [dF, qga, Bool.false_and, Bool.and_false]
  · intro k hk
    rw [qgw, qg9, qg9]
    by_cases z1 : a.2.1 = 0
    · have sf : sib a b = false := by
        rw [← Bool.not_eq_true]; intro hs; have := qtk hs; omega
      rw [sf]
      by_cases z2 : b.2.1 = 0
      · simp (disch := omega) only [qbk, ha, bit, dT, qvt, qgc, qa6, nth0, qu1, Bool.not_true, qga, hb, Bool.and_true, nth1, qfi, qu2, qfj, qfu]
      · simp (disch := omega) only [qbk, ha, bit, dT, qvt, qgc, qa6, nth0, qu1, Bool.not_true, qga, hb, dF, Bool.and_true, nth1, qfi, qu2, qfj, qfu]
    · by_cases z2 : b.2.1 = 0
      · have sf : sib a b = false := by
          rw [← Bool.not_eq_true]; intro hs
          simp only [sib, Bool.and_eq_true, decide_eq_true_eq] at hs
          omega
        rw [sf]
        simp (disch := omega) only [qbk, ha, bit, dF, qvt, qga, qa6, nth0, qu1, Bool.not_true, hb, dT, qgc, Bool.and_true, nth1, qfi, qu2, qfj, qfu]
      · unfold sib
        rw [ha, hb]
        simp (disch := omega) only [qbk, ha, bit, dF, qvt, da, qga, qa6, nth0, qu1, Bool.not_true, hb, db, Bool.and_true, ea, nth1, qfi, qu2, qfj, qfu, qgc, Bool.true_and]
        by_cases h1 : a.1 = b.1
        · by_cases h2 : a.2.1 = b.2.1
          · by_cases h3 : a.2.2 % 2 = 0
            · by_cases h5 : b.2.2 = a.2.2 + 1
              · simp (disch := omega) only [dT, Bool.and_true, qgc]
              · by_cases h6 : a.2.2 / 2 = b.2.2 / 2
                · simp (disch := omega) only [dT, Bool.and_true, dF, qgc, Bool.and_false]
                · simp (disch := omega) only [dT, dF, Bool.and_false, qgc, qga]
            · by_cases h6 : a.2.2 / 2 = b.2.2 / 2
              · simp (disch := omega) only [dT, Bool.and_true, dF, qga, qgc, Bool.and_false]
              · simp (disch := omega) only [dT, dF, Bool.and_false, qga, Bool.false_and]
          · simp (disch := omega) only [dT, dF, Bool.false_and, Bool.and_false, qga]
        · simp (disch := omega) only [dF, Bool.false_and, qga]
theorem qep (k : Nat) (hk : 2000000 ≤ k) (r : Int) (z : Bool) (l : List Cell) (h : qpm r 0 l = true) (i : Nat) (hi : i + 1 < l.length) :
    go (k + 4) spec_l06May [.agg [.int .i64 r, .arr false z (.r3 l)], .int .i64 (i : Int)] = some [.bool (mayC l i)] := by
  rw [qju]
  have L := qps h
  have id := fun j (hj : j < l.length) => ((qpr _ _ _ h).2.2.2.1 _ hj).2.2
  have eS := (qbd (id i (by omega)) (id (i + 1) hi)).1 k (by omega)
  unfold mayC
  simp (disch := omega) only [dT, nI, Bool.and_true, qfg, qvt, Int.toNat_natCast, eS, bit, qfh, Bool.true_and, qa6, nth0, qu1, qgc]
  cases sib (l.getD i zz3) (l.getD (i + 1) zz3)
  · simp (disch := omega) only [Bool.not_false, qgc, Bool.false_and]
  by_cases h0 : i = 0
  · subst h0
    by_cases h1 : l.length ≤ 2
    · simp (disch := omega) only [Bool.not_true, dT, dF, qga, qgc, dTT, Bool.true_or, Bool.and_true]
    · simp only [qnj]
      simp (disch := omega) only [Bool.not_true, dT, Nat.zero_add, dF, qgc, qga, dTT, Bool.true_or, Bool.false_or, Bool.true_and]
  · by_cases h1 : l.length ≤ i + 2
    · simp only [qnj]
      by_cases h2 : (l.getD (i - 1) zz3).2.1 ≤ (l.getD i zz3).2.1
      · simp (disch := omega) only [Bool.not_true, dF, dT, qga, qgc, qff, Int.toNat_natCast, Bool.or_true, Bool.true_or, Bool.and_true]
      · simp (disch := omega) only [Bool.not_true, dF, dT, qga, qgc, qff, Int.toNat_natCast, Bool.or_false, Bool.true_or, Bool.and_true, Bool.and_false]
    · simp only [qnj]
      by_cases h2 : (l.getD (i - 1) zz3).2.1 ≤ (l.getD i zz3).2.1
      · simp (disch := omega) only [Bool.not_true, dF, dT, qgc, qga, qff, Int.toNat_natCast, Bool.or_true, Bool.false_or, Bool.true_and]
      · simp (disch := omega) only [Bool.not_true, dF, dT, qgc, qga, qff, Int.toNat_natCast, Bool.or_false, Bool.false_or, Bool.false_and, Bool.and_false]
theorem qcs (k : Nat) (hk : 2000000 ≤ k) (r : Int) (z : Bool) (l : List Cell) (h : qpm r 0 l = true) (i : Nat) (hi : i + 1 < l.length) :
    go (k + 6) impl_Mesh_mayCoarsen [.agg [.int .i64 r, .arr false z (.r3 l)], .int .i64 (i : Int)] = some [.bool (mayC l i)] := by
  rw [qg4]
  have L := qps h
  have id := fun j (hj : j < l.length) => ((qpr _ _ _ h).2.2.2.1 _ hj).2.2
  have eS := (qbd (id i (by omega)) (id (i + 1) hi)).2 k (by omega)
  have b1 : inR (i : Int) 0 ((l.length : Int) - 1) = true := qle.2 (by omega)
  have b2 : inR ((i + 1 : Nat) : Int) 0 ((l.length : Int) - 1) = true := qle.2 (by omega)
  unfold mayC
  simp (disch := omega) only [qci, b1, bit, qfg, qvt, b2, dT, nI, Bool.and_true, Int.toNat_natCast, eS, qfh, Bool.true_and, Bool.not_false, qa6, nth0, qu1, qgc, Bool.not_true, qga]
  cases sib (l.getD i zz3) (l.getD (i + 1) zz3)
  · simp (disch := omega) only [Bool.not_false, qgc, Bool.false_and]
  by_cases h0 : i = 0
  · subst h0
    have b3 : inR (((0 : Nat) : Int) - 1) 0 ((l.length : Int) - 1) = false := by rw [← Bool.not_eq_true, qle]; omega
    by_cases h1 : l.length ≤ 2
    · have b4 : inR ((0 + 2 : Nat) : Int) 0 ((l.length : Int) - 1) = false := by rw [← Bool.not_eq_true, qle]; omega
      simp (disch := omega) only [Bool.not_true, b3, dF, b4, qga, dTT, Bool.true_or, dT, Bool.and_true]
    · have b4 : inR ((0 + 2 : Nat) : Int) 0 ((l.length : Int) - 1) = true := qle.2 (by omega)
      simp only [qnj]
      by_cases h3 : (l.getD (0 + 2) zz3).2.1 ≤ (l.getD 0 zz3).2.1
      · simp (disch := omega) only [Bool.not_true, b3, dF, b4, dT, Bool.not_false, qgc, qga, dTT, Bool.true_or, Bool.or_true, Bool.and_true]
      · simp (disch := omega) only [Bool.not_true, b3, dF, b4, dT, qgc, qga, dTT, Bool.true_or, Bool.or_false, Bool.and_false]
  · have ci : (i : Int) - 1 = ((i - 1 : Nat) : Int) := by omega
    have b3 : inR (((i - 1 : Nat) : Nat) : Int) 0 ((l.length : Int) - 1) = true := qle.2 (by omega)
    simp only [qnj]
    by_cases h2 : (l.getD (i - 1) zz3).2.1 ≤ (l.getD i zz3).2.1
    · by_cases h1 : l.length ≤ i + 2
      · have b4 : inR ((i + 2 : Nat) : Int) 0 ((l.length : Int) - 1) = false := by rw [← Bool.not_eq_true, qle]; omega
        simp (disch := omega) only [Bool.not_true, ci, b3, dT, Int.toNat_natCast, dF, Bool.not_false, b4, qga, qgc, Bool.or_true, Bool.true_or, Bool.and_true]
      · have b4 : inR ((i + 2 : Nat) : Int) 0 ((l.length : Int) - 1) = true := qle.2 (by omega)
        by_cases h3 : (l.getD (i + 2) zz3).2.1 ≤ (l.getD i zz3).2.1
        · simp (disch := omega) only [Bool.not_true, ci, b3, dT, Int.toNat_natCast, dF, Bool.not_false, b4, qgc, qga, Bool.or_true, Bool.and_true]
        · simp (disch := omega) only [Bool.not_true, ci, b3, dT, Int.toNat_natCast, dF, Bool.not_false, b4, qgc, qga, Bool.or_true, Bool.or_false, Bool.and_false]
    · simp (disch := omega) only [Bool.not_true, ci, b3, dT, Int.toNat_natCast, qga, qgc, dF, Bool.or_false, Bool.false_and, Bool.and_false]
def toR (l : List Cell) : Int := if unb l < 0 then unb l else ((qf7 l (unb l).toNat : Nat) : Int)
theorem qc6 (k : Nat) (hk : 2000000 ≤ k) (r : Int) (z : Bool) (l : List Cell) (h : qpm r 0 l = true) : go (k + 3) impl_Mesh_toRefine [.agg [.int .i64 r, .arr false z (.r3 l)]] = some [.int .i64 (toR l)] := by
  rw [qg7]
  have L := qps h
  have mv := qpt _ _ _ h
  rw [qc7 k (by omega) _ _ _ (by omega) mv]
  unfold toR
  by_cases g : unb l < 0
  · rw [if_pos g]; simp (disch := omega) only [nI, qa6, nth0, qu2, dF, dT, Bool.and_true, qga]
  · rw [if_neg g]
    obtain ⟨j, e, h1, h2⟩ := qu9 (by omega : 0 ≤ unb l)
    rw [e, Int.toNat_natCast]
    unfold qf7
    by_cases g2 : qnj l (j + 1) < qnj l j
    · rw [if_pos g2]; simp only [qnj] at g2; simp (disch := omega) only [nI, qa6, nth0, qu2, dT, Bool.and_true, qfg, qvt, Int.toNat_natCast, qgc]
    · rw [if_neg g2]; simp only [qnj] at g2; simp (disch := omega) only [nI, qa6, nth0, qu2, dT, Bool.and_true, qfg, qvt, Int.toNat_natCast, dF, qga, qgc]
theorem qn3 (k : Nat) (hk : 2000000 ≤ k) (fu : List (Nat × Nat)) (w0 : Int) (v1 : Bool) (w1 : List Cell) (v2 : Bool) (w2 : List Int) (v3 : Bool) (w3 : List Int) (v4 : Bool) (w4 : List Int) (r : Int) (b : List Int) : ∀ (N n : Nat) (s : S3), N < n → StU r s b → 129 ≤ N + s.1.length →
    lp (k + 3) impl_State_balance [.ptr true [.int .i64 w0, .arr true v1 (.r3 w1), .arr true v2 (.ints .i64 w2), .arr true v3 (.ints .i64 w3), .arr true v4 (.ints .i64 w4)]] fu 1 n (qry (toR s.1) false s.1 false s.2.1 false s.2.2 false b r) = some [.ptr true [.int .i64 (r), .arr true (false) (.r3 ((lvS N s).1)), .arr true (false) (.ints .i64 ((lvS N s).2.1)), .arr true (false) (.ints .i64 ((lvS N s).2.2)), .arr true (false) (.ints .i64 (b))]]
  | N, 0, s, hn, U, hN => by omega
  | 0, n + 1, s, hn, U, hN => by have := U.len; omega
  | N + 1, n + 1, s, hn, U, hN => by
    rw [ql4]
    have L := U.len
    unfold lvS toR
    by_cases g : unb s.1 < 0
    · rw [if_pos g, if_pos g]; simp (disch := omega) only [dF, qga]
    · rw [if_neg g, if_neg g]
      obtain ⟨j, e, h1, h2⟩ := qu9 (by omega : 0 ≤ unb s.1)
      have c := qf8 U.mesh h1 h2
      rw [e, Int.toNat_natCast]
      have U' := rf_U U c.1 c.2
      have IH := qn3 k hk fu w0 v1 w1 v2 w2 v3 w3 v4 w4 r b N n _ (by omega) U' (by show 129 ≤ N + (qtr s.1 _).length; rw [qts c.1]; omega)
      have eR := qcy k (by omega) r s b U (qf7 s.1 j) c.1 c.2
      have eT := qc6 k (by omega) r false _ U'.mesh
      simp (disch := omega) only [dT, eR, qa6, nth0, qqr, qu2, qqs, qp3, qqu, eT, qqt, qlg, qu5, qu6, IH, qgc]
theorem qb7 (k : Nat) (hk : 2000000 ≤ k) (r : Int) (s : S3) (b : List Int) (U : StU r s b) : go (k + 4) impl_State_balance [.ptr true [.int .i64 (r), .arr true (false) (.r3 (s.1)), .arr true (false) (.ints .i64 (s.2.1)), .arr true (false) (.ints .i64 (s.2.2)), .arr true (false) (.ints .i64 (b))]] = some [.ptr true [.int .i64 (r), .arr true (false) (.r3 ((lvS 128 s).1)), .arr true (false) (.ints .i64 ((lvS 128 s).2.1)), .arr true (false) (.ints .i64 ((lvS 128 s).2.2)), .arr true (false) (.ints .i64 (b))]] := by
  rw [qhj]
  have eT := qc6 k (by omega) r false _ U.mesh
  have L := U.len
  simp (disch := omega) only [eT, qa6, nth0, qu2]
  exact qn3 k hk [] _ _ _ _ _ _ _ _ _ r b 128 _ s (by omega) U (by omega)
theorem qo4 (k : Nat) (hk : 2000000 ≤ k) (fu : List (Nat × Nat)) (z10 : Bool) (l11 : List Cell) (z12 : Bool) (l13 : List Int) (z14 : Bool) (l15 : List Int) (z16 : Bool) (l17 : List Int) (x18 : Int) (r : Int) (b : List Int) : ∀ (N n : Nat) (s : S3), N < n → StU r s b → 129 ≤ N + s.1.length →
    lp (k + 5) spec_l08Level [] fu 2 (n) (qsu (unb s.1) false s.1 false s.2.1 false s.2.2 false b r z10 l11 z12 l13 z14 l15 z16 l17 x18) = some [.agg [.int .i64 (r), .arr true (false) (.r3 ((lvS N s).1)), .arr true (false) (.ints .i64 ((lvS N s).2.1)), .arr true (false) (.ints .i64 ((lvS N s).2.2)), .arr true (false) (.ints .i64 (b))]]
  | N, 0, s, hn, U, hN => by omega
  | 0, n + 1, s, hn, U, hN => by have := U.len; omega
  | N + 1, n + 1, s, hn, U, hN => by
    rw [qm0]
    have L := U.len
    unfold lvS
    by_cases g : unb s.1 < 0
    · rw [if_pos g]; simp (disch := omega) only [dF, qga]
    · rw [if_neg g]
      obtain ⟨j, e, h1, h2⟩ := qu9 (by omega : 0 ≤ unb s.1)
      have c := qf8 U.mesh h1 h2
      rw [e, Int.toNat_natCast]
      have U' := rf_U U c.1 c.2
      have L' := U'.len
      have IH := qo4 k hk fu z10 l11 z12 l13 z14 l15 z16 l17 x18 r b N n _ (by omega) U' (by show 129 ≤ N + (qtr s.1 _).length; rw [qts c.1]; omega)
      have eC := qek (k + 4) (by omega) r false s.1 j (by omega) h1
      have eR := qev k (by omega) r s b U (qf7 s.1 j) c.1 c.2
      have eT := qem (k + 4) (by omega) r false (rfS s (qf7 s.1 j)).1 (by omega) (qpt _ _ _ U'.mesh)
      simp (disch := omega) only [dT, eC, qa6, nth0, qu2, eR, qfi, qfj, qp3, qqu, eT, qfu, qlg, qfw, qfx, IH, qgc]
theorem qfb (k : Nat) (hk : 2000000 ≤ k) (r : Int) (s : S3) (b : List Int) (U : StU r s b) : go (k + 6) spec_l08Level [.agg [.int .i64 (r), .arr true (false) (.r3 (s.1)), .arr true (false) (.ints .i64 (s.2.1)), .arr true (false) (.ints .i64 (s.2.2)), .arr true (false) (.ints .i64 (b))]] = some [.agg [.int .i64 (r), .arr true (false) (.r3 ((lvS 128 s).1)), .arr true (false) (.ints .i64 ((lvS 128 s).2.1)), .arr true (false) (.ints .i64 ((lvS 128 s).2.2)), .arr true (false) (.ints .i64 (b))]] := by
  rw [qjz]
  have L := U.len
  have eT := qem (k + 4) (by omega) r false s.1 (by omega) (qpt _ _ _ U.mesh)
  simp (disch := omega) only [eT, qa6, nth0, qu2]
  exact qo4 k hk [] _ _ _ _ _ _ _ _ _ r b 128 _ s (by omega) U (by omega)
end Go.Proofs.YtoldpdhhfmlckaaGreat
end
section
namespace Go.Proofs.YtoldpdhhfmlckaaGreat
open Go.Ev
set_option maxRecDepth 20000
theorem len2 (x y : Int) : List.length [x, y] = 2 := Eq.trans rfl rfl
theorem gd0 (x y : Int) : List.getD [x, y] 0 0 = x := Eq.trans rfl rfl
theorem gd1 (x y : Int) : List.getD [x, y] 1 0 = y := Eq.trans rfl rfl
theorem len1 (x : Int) : List.length [x] = 1 := Eq.trans rfl rfl
theorem len0 : List.length ([] : List Int) = 0 := Eq.trans rfl rfl
theorem gdo (x : Int) : List.getD [x] 0 0 = x := Eq.trans rfl rfl
theorem ton1 : Int.toNat 1 = 1 := Eq.trans rfl rfl
def nb (l : List Cell) (i : Nat) : List Int := if 0 < i then (if i + 1 < l.length then [((i - 1 : Nat) : Int), ((i + 1 : Nat) : Int)] else [((i - 1 : Nat) : Int)]) else (if i + 1 < l.length then [((i + 1 : Nat) : Int)] else [])
theorem qcu (k : Nat) (hk : 2000000 ≤ k) (r : Int) (z : Bool) (l : List Cell) (h : qpm r 0 l = true) (i : Nat) (hi : i < l.length) :
    go (k + 3) impl_Mesh_neighbours [.agg [.int .i64 r, .arr false z (.r3 l)], .int .i64 (i : Int)] = some [.arr true false (.ints .i64 (nb l i))] := by
  rw [qg5]
  have L := qps h
  have w1 : IntKind.wrap .i64 ((i : Int) - 1) = (i : Int) - 1 := qvt (by omega) (by omega)
  have w2 : IntKind.wrap .i64 ((i : Int) + 1) = ((i + 1 : Nat) : Int) := by rw [qvt (by omega) (by omega)]; omega
  have w3 : IntKind.wrap .i64 ((0 : Int) + 1) = 1 := by rw [qvt (by omega) (by omega)]; rfl
  have w4 : IntKind.wrap .i64 ((1 : Int) + 1) = 2 := by rw [qvt (by omega) (by omega)]; rfl
  rw [w1, w2, len2]
  have n2 : nI 2 = 2 := Eq.trans rfl rfl
  rw [n2]
  have la : ∀ x : Int, ([] ++ [x] : List Int).length = 1 := fun x => rfl
  have lb : ∀ x y : Int, ([x] ++ [y] : List Int).length = 2 := fun x y => rfl
  have f0 := qly (k + 2) (k + 2 - 1) [] 2 0 z l r false [] false [(i : Int) - 1, ((i + 1 : Nat) : Int)]
  have f1 := fun x => qly (k + 2) (k + 2 - 2) [] 2 1 z l r false x false [(i : Int) - 1, ((i + 1 : Nat) : Int)]
  have f2 := fun x => qly (k + 2) (k + 2 - 3) [] 2 2 z l r false x false [(i : Int) - 1, ((i + 1 : Nat) : Int)]
  rw [show k + 2 - 1 + 1 = k + 2 by omega] at f0
  rw [show k + 2 - 2 + 1 = k + 2 - 1 by omega] at f1
  rw [show k + 2 - 3 + 1 = k + 2 - 2 by omega] at f2
  simp (disch := omega) only [dF, dT, nI, len2, Bool.and_false, bit, big0, qvt, Bool.false_and, qga] at f2
  unfold nb
  by_cases h0 : 0 < i
  · have b1 : inR ((i : Int) - 1) 0 ((l.length : Int) - 1) = true := qle.2 (by omega)
    have ci : (i : Int) - 1 = ((i - 1 : Nat) : Int) := by omega
    rw [if_pos h0]
    by_cases h1 : i + 1 < l.length
    · have b2 : inR ((i + 1 : Nat) : Int) 0 ((l.length : Int) - 1) = true := qle.2 (by omega)
      rw [if_pos h1]
      simp (disch := omega) only [dT, nI, len2, Bool.and_true, ton1, gd1, qci, b2, bit, big0, w4, Bool.false_and, f2, qa6, nth0, qu1, qgc] at f1
      simp (disch := omega) only [dT, nI, len2, Bool.and_true, ton0, gd0, qci, b1, bit, qp2, len1, big0, w3, dF, Bool.and_false, f1, lb, qgc, qa6, nth0, qu1] at f0
      rw [← ci]; exact f0
    · have b2 : inR ((i + 1 : Nat) : Int) 0 ((l.length : Int) - 1) = false := by rw [← Bool.not_eq_true, qle]; omega
      rw [if_neg h1]
      simp (disch := omega) only [dT, nI, len2, Bool.and_true, ton1, gd1, qci, b2, bit, big0, w4, Bool.false_and, f2, qa6, nth0, qu1, qga, qgc] at f1
      simp (disch := omega) only [dT, nI, len2, Bool.and_true, ton0, gd0, qci, b1, bit, qp2, len1, big0, w3, dF, Bool.and_false, f1, qgc, qa6, nth0, qu1] at f0
      rw [← ci]; exact f0
  · have b1 : inR ((i : Int) - 1) 0 ((l.length : Int) - 1) = false := by rw [← Bool.not_eq_true, qle]; omega
    rw [if_neg h0]
    by_cases h1 : i + 1 < l.length
    · have b2 : inR ((i + 1 : Nat) : Int) 0 ((l.length : Int) - 1) = true := qle.2 (by omega)
      rw [if_pos h1]
      simp (disch := omega) only [dT, nI, len2, Bool.and_true, ton1, gd1, qci, b2, bit, big0, w4, Bool.false_and, f2, qa6, nth0, qu1, qgc] at f1
      have f1' := f1 []
      simp (disch := omega) only [qp2, len1, dT, qgc] at f1'
      simp (disch := omega) only [dT, nI, len2, Bool.and_true, ton0, gd0, qci, b1, bit, qp2, big0, w3, Bool.false_and, f1', qa6, nth0, qu1, qga, qgc] at f0
      exact f0
    · have b2 : inR ((i + 1 : Nat) : Int) 0 ((l.length : Int) - 1) = false := by rw [← Bool.not_eq_true, qle]; omega
      rw [if_neg h1]
      simp (disch := omega) only [dT, nI, len2, Bool.and_true, ton1, gd1, qci, b2, bit, big0, w4, Bool.false_and, f2, qa6, nth0, qu1, qga, qgc] at f1
      simp (disch := omega) only [dT, nI, len2, Bool.and_true, ton0, gd0, qci, b1, bit, qp2, big0, w3, Bool.false_and, f1, qa6, nth0, qu1, qga, qgc] at f0
      exact f0
def jmp (l : List Cell) (m b : List Int) (i : Nat) : Int := max (if 0 < i then gap (surf l m b i) (surf l m b (i - 1)) else 0) (if i + 1 < l.length then gap (surf l m b i) (surf l m b (i + 1)) else 0)
theorem qkz (a b : Int) : 0 ≤ gap a b := by unfold gap; split <;> omega
theorem qky (a b : Int) : max (0 - (a - b)) (a - b) = gap a b := by unfold gap; split <;> omega
theorem qe3 (k : Nat) (hk : 2000000 ≤ k) (r : Int) (z1 z2 z3 z4 : Bool) (l : List Cell) (m t b : List Int) (F : StF r l m t b) (i : Nat) (hi : i < l.length) :
    go (k + 2) spec_l16Jump [.agg [.int .i64 (r), .arr false (z1) (.r3 (l)), .arr false (z2) (.ints .i64 (m)), .arr false (z3) (.ints .i64 (t)), .arr false (z4) (.ints .i64 (b))], .int .i64 (i : Int)] = some [.int .i64 (jmp l m b i)] := by
  rw [qkd]
  have L := F.len; have ml := F.ml
  have s0 := quh F i; have s1 := quh F (i - 1); have s2 := quh F (i + 1)
  have g1 := qkz (surf l m b i) (surf l m b (i - 1)); have g2 := qkz (surf l m b i) (surf l m b (i + 1))
  have e0 := qez k (by omega) r z1 z2 z3 z4 l m t b F i hi
  unfold jmp
  by_cases h0 : 0 < i
  · have ci : (i : Int) - 1 = ((i - 1 : Nat) : Int) := by omega
    have e1 := qez k (by omega) r z1 z2 z3 z4 l m t b F (i - 1) (by omega)
    rw [if_pos h0]
    by_cases h1 : i + 1 < l.length
    · have e2 := qez k (by omega) r z1 z2 z3 z4 l m t b F (i + 1) (by omega)
      rw [if_pos h1]
      simp (disch := omega) only [dT, e0, ci, qvt, e1, qfg, nI, e2, imax, qa6, nth0, qu2, qex, qgc]
      rw [show ∀ x y : Int, max x y = max y x from fun x y => by omega]
    · rw [if_neg h1]
      simp (disch := omega) only [dT, e0, ci, qvt, e1, qfg, nI, dF, imax, qa6, nth0, qu2, qga, qex, qgc]
      rw [show max (gap (surf l m b i) (surf l m b (i - 1))) 0 = gap (surf l m b i) (surf l m b (i - 1)) by omega]
  · rw [if_neg h0]
    by_cases h1 : i + 1 < l.length
    · have e2 := qez k (by omega) r z1 z2 z3 z4 l m t b F (i + 1) (by omega)
      rw [if_pos h1]
      simp (disch := omega) only [dF, e0, qvt, qfg, nI, dT, e2, imax, qa6, nth0, qu2, qex, qgc, qga]
      rw [show ∀ x y : Int, max x y = max y x from fun x y => by omega]
    · rw [if_neg h1]
      simp (disch := omega) only [dF, qvt, qfg, nI, imax, qga]
      rfl
set_option maxHeartbeats 4000000 in
theorem qcp (k : Nat) (hk : 2000000 ≤ k) (r : Int) (z1 z2 z3 z4 : Bool) (l : List Cell) (m t b : List Int) (F : StF r l m t b) (i : Nat) (hi : i < l.length) :
    go (k + 4) impl_State_jump [.agg [.int .i64 (r), .arr false (z1) (.r3 (l)), .arr false (z2) (.ints .i64 (m)), .arr false (z3) (.ints .i64 (t)), .arr false (z4) (.ints .i64 (b))], .int .i64 (i : Int)] = some [.int .i64 (jmp l m b i)] := by
  rw [qhq]
  have L := F.len; have ml := F.ml
  have s0 := quh F i; have s1 := quh F (i - 1); have s2 := quh F (i + 1)
  have g1 := qkz (surf l m b i) (surf l m b (i - 1)); have g2 := qkz (surf l m b i) (surf l m b (i + 1))
  have e0 := qc5 (k + 2) (by omega) r z1 z2 z3 z4 l m t b F i hi
  have eN := qcu k (by omega) r z1 l F.mesh i hi
  have w3 : IntKind.wrap .i64 ((0 : Int) + 1) = 1 := by rw [qvt (by omega) (by omega)]; rfl
  have w4 : IntKind.wrap .i64 ((1 : Int) + 1) = 2 := by rw [qvt (by omega) (by omega)]; rfl
  have n2 : ((2 : Nat) : Int) = 2 := Eq.trans rfl rfl
  have n1 : ((1 : Nat) : Int) = 1 := Eq.trans rfl rfl
  have n0 : ((0 : Nat) : Int) = 0 := Eq.trans rfl rfl
  unfold jmp
  simp (disch := omega) only [eN, nI, qa6, nth0, qlg, qp3]
  unfold nb
  by_cases h0 : 0 < i
  · have e1 := qc5 (k + 2) (by omega) r z1 z2 z3 z4 l m t b F (i - 1) (by omega)
    rw [if_pos h0, if_pos h0]
    by_cases h1 : i + 1 < l.length
    · have e2 := qc5 (k + 2) (by omega) r z1 z2 z3 z4 l m t b F (i + 1) (by omega)
      rw [if_pos h1, if_pos h1]
      have f0 := fun y => ql7 (k + 3) (k + 3 - 1) [] (i : Int) y 2 0 z1 l z2 m z3 t z4 b r false [((i - 1 : Nat) : Int), ((i + 1 : Nat) : Int)]
      have f1 := fun y => ql7 (k + 3) (k + 3 - 2) [] (i : Int) y 2 1 z1 l z2 m z3 t z4 b r false [((i - 1 : Nat) : Int), ((i + 1 : Nat) : Int)]
      have f2 := fun y => ql7 (k + 3) (k + 3 - 3) [] (i : Int) y 2 2 z1 l z2 m z3 t z4 b r false [((i - 1 : Nat) : Int), ((i + 1 : Nat) : Int)]
      rw [show k + 3 - 1 + 1 = k + 3 by omega] at f0
      rw [show k + 3 - 2 + 1 = k + 3 - 1 by omega] at f1
      rw [show k + 3 - 3 + 1 = k + 3 - 2 by omega] at f2
      simp (disch := omega) only [dF, dT, nI, len2, Bool.and_false, imax, qvt, qga] at f2
      simp (disch := omega) only [dT, nI, len2, Bool.and_true, e0, ton1, gd1, e2, imax, w4, f2, qa6, nth0, qu2, qvt, qb4, qky, qgc] at f1
      simp (disch := omega) only [dT, nI, len2, Bool.and_true, e0, ton0, gd0, e1, imax, w3, f1, qa6, nth0, qu2, qvt, qb4, qky, qgc] at f0
      rw [len2, n2, f0, show ∀ x y : Int, 0 ≤ x → max y (max x 0) = max x y from fun x y h => by omega]
      exact g1
    · rw [if_neg h1, if_neg h1]
      have f0 := fun y => ql7 (k + 3) (k + 3 - 1) [] (i : Int) y 1 0 z1 l z2 m z3 t z4 b r false [((i - 1 : Nat) : Int)]
      have f1 := fun y => ql7 (k + 3) (k + 3 - 2) [] (i : Int) y 1 1 z1 l z2 m z3 t z4 b r false [((i - 1 : Nat) : Int)]
      rw [show k + 3 - 1 + 1 = k + 3 by omega] at f0
      rw [show k + 3 - 2 + 1 = k + 3 - 1 by omega] at f1
      simp (disch := omega) only [dF, dT, nI, len1, Bool.and_false, imax, qvt, qga] at f1
      simp (disch := omega) only [dT, nI, len1, Bool.and_true, e0, ton0, gdo, e1, imax, w3, f1, qa6, nth0, qu2, qvt, qb4, qky, qgc] at f0
      rw [len1, n1, f0]
  · rw [if_neg h0, if_neg h0]
    by_cases h1 : i + 1 < l.length
    · have e2 := qc5 (k + 2) (by omega) r z1 z2 z3 z4 l m t b F (i + 1) (by omega)
      rw [if_pos h1, if_pos h1]
      have f0 := fun y => ql7 (k + 3) (k + 3 - 1) [] (i : Int) y 1 0 z1 l z2 m z3 t z4 b r false [((i + 1 : Nat) : Int)]
      have f1 := fun y => ql7 (k + 3) (k + 3 - 2) [] (i : Int) y 1 1 z1 l z2 m z3 t z4 b r false [((i + 1 : Nat) : Int)]
      rw [show k + 3 - 1 + 1 = k + 3 by omega] at f0
      rw [show k + 3 - 2 + 1 = k + 3 - 1 by omega] at f1
      simp (disch := omega) only [dF, dT, nI, len1, Bool.and_false, imax, qvt, qga] at f1
      simp (disch := omega) only [dT, nI, len1, Bool.and_true, e0, ton0, gdo, e2, imax, w3, f1, qa6, nth0, qu2, qvt, qb4, qky, qgc] at f0
      rw [len1, n1, f0, show ∀ x : Int, max x 0 = max 0 x from fun x => by omega]
    · rw [if_neg h1, if_neg h1]
      have f0 := fun y => ql7 (k + 3) (k + 3 - 1) [] (i : Int) y 0 0 z1 l z2 m z3 t z4 b r false []
      rw [show k + 3 - 1 + 1 = k + 3 by omega] at f0
      simp (disch := omega) only [dF, dT, nI, len0, Bool.and_false, imax, qvt, qga] at f0
      rw [len0, n0, f0]
      rfl
def wsh (l : List Cell) (m b : List Int) (hi lo : Int) (i : Nat) : Int := if hi < jmp l m b i ∧ qnj l i < 4 then 1 else if jmp l m b i < lo ∧ 0 < qnj l i then -1 else 0
theorem quq (n : Nat) (g : Nat → Int) : tab (n + 1) g = tab n g ++ [g n] := by
  unfold tab; rw [List.range_succ, List.map_append]; rfl
theorem qlr {r : Int} {l : List Cell} {m t b : List Int} (F : StF r l m t b) (i : Nat) : 0 ≤ jmp l m b i ∧ jmp l m b i ≤ 161000000 := by
  have s0 := quh F i; have s1 := quh F (i - 1); have s2 := quh F (i + 1)
  unfold jmp gap
  by_cases h0 : 0 < i
  · rw [if_pos h0]
    by_cases h1 : i + 1 < l.length
    · rw [if_pos h1]; omega
    · rw [if_neg h1]; omega
  · rw [if_neg h0]
    by_cases h1 : i + 1 < l.length
    · rw [if_pos h1]; omega
    · rw [if_neg h1]; omega
theorem qow (k : Nat) (hk : 2000000 ≤ k) (fu : List (Nat × Nat)) (hi lo r : Int) (z1 z2 z3 z4 : Bool) (l : List Cell) (m t b : List Int) (F : StF r l m t b) : ∀ (N i : Nat), i ≤ l.length → l.length - i < N →
    lp (k + 2) spec_l16Wishes [] fu 3 (N) (qs0 hi lo (i : Int) z1 l z2 m z3 t z4 b r false (tab i (wsh l m b hi lo))) = some [.arr true false (.ints .i64 (tab l.length (wsh l m b hi lo)))]
  | 0, i, hl, hN => by omega
  | N + 1, i, hl, hN => by
    rw [qm6]
    have L := F.len; have ml := F.ml
    by_cases g : i < l.length
    · have IH := qow k hk fu hi lo r z1 z2 z3 z4 l m t b F N (i + 1) (by omega) (by omega)
      have eJ := qe3 k (by omega) r z1 z2 z3 z4 l m t b F i g
      have la : ∀ x : Int, (tab i (wsh l m b hi lo) ++ [x]).length = i + 1 := fun x => by rw [List.length_append, qum]; rfl
      rw [quq] at IH
      have jb := qlr F i
      simp only [wsh, qnj] at IH
      by_cases h1 : hi < jmp l m b i
      · by_cases h2 : (l.getD i zz3).2.1 < 4
        · rw [if_pos ⟨h1, h2⟩] at IH; simp (disch := omega) only [nI, dT, eJ, Bool.and_true, Int.toNat_natCast, la, big0, qfg, qvt, dF, Bool.and_false, IH, qgc, qa6, nth0, qu2]
        · rw [if_neg (fun h => h2 h.2)] at IH
          by_cases h3 : jmp l m b i < lo
          · have h4 : 0 < (l.getD i zz3).2.1 := by omega
            rw [if_pos ⟨h3, h4⟩] at IH; simp (disch := omega) only [nI, dT, eJ, Bool.and_true, Int.toNat_natCast, dF, la, big0, qfg, qvt, Bool.and_false, qgc, IH, qga, qa6, nth0, qu2]
          · rw [if_neg (fun h => h3 h.1)] at IH; simp (disch := omega) only [nI, dT, eJ, Bool.and_true, Int.toNat_natCast, dF, la, big0, qfg, qvt, Bool.and_false, qgc, IH, qga, qa6, nth0, qu2]
      · rw [if_neg (fun h => h1 h.1)] at IH
        by_cases h3 : jmp l m b i < lo
        · by_cases h4 : 0 < (l.getD i zz3).2.1
          · rw [if_pos ⟨h3, h4⟩] at IH; simp (disch := omega) only [nI, dT, eJ, Bool.and_true, Int.toNat_natCast, la, big0, qfg, qvt, dF, Bool.and_false, qgc, IH, qa6, nth0, qu2, qga]
          · rw [if_neg (fun h => h4 h.2)] at IH; simp (disch := omega) only [nI, dT, eJ, Bool.and_true, Int.toNat_natCast, la, big0, qfg, qvt, dF, Bool.and_false, qgc, IH, qga, qa6, nth0, qu2]
        · rw [if_neg (fun h => h3 h.1)] at IH; simp (disch := omega) only [nI, dT, eJ, Bool.and_true, Int.toNat_natCast, la, big0, qfg, qvt, dF, Bool.and_false, qgc, IH, qa6, nth0, qu2, qga]
    · simp (disch := omega) only [nI, dF, dT, Bool.and_false, Int.toNat_natCast, big0, qfg, qvt, Bool.false_and, qga]
      rw [show i = l.length by omega]
theorem qn1 (k : Nat) (hk : 2000000 ≤ k) (fu : List (Nat × Nat)) (hi lo r : Int) (z1 z2 z3 z4 : Bool) (l : List Cell) (m t b : List Int) (F : StF r l m t b) : ∀ (N i : Nat), i ≤ l.length → l.length - i < N →
    lp (k + 8) impl_Wishes [] fu 5 (N) (qr9 hi lo (l.length : Int) (i : Int) z1 l z2 m z3 t z4 b r false (tab i (wsh l m b hi lo))) = some [.arr true false (.ints .i64 (tab l.length (wsh l m b hi lo)))]
  | 0, i, hl, hN => by omega
  | N + 1, i, hl, hN => by
    rw [qmf]
    have L := F.len; have ml := F.ml
    by_cases g : i < l.length
    · have IH := qn1 k hk fu hi lo r z1 z2 z3 z4 l m t b F N (i + 1) (by omega) (by omega)
      have eJ := qcp (k + 4) (by omega) r z1 z2 z3 z4 l m t b F i g
      have la : ∀ x : Int, (tab i (wsh l m b hi lo) ++ [x]).length = i + 1 := fun x => by rw [List.length_append, qum]; rfl
      rw [quq] at IH
      have jb := qlr F i
      simp only [wsh, qnj] at IH
      by_cases h1 : hi < jmp l m b i
      · by_cases h2 : (l.getD i zz3).2.1 < 4
        · rw [if_pos ⟨h1, h2⟩] at IH; simp (disch := omega) only [dT, nI, Bool.and_true, eJ, Int.toNat_natCast, la, big0, qfg, qvt, dF, Bool.and_false, IH, qgc, qa6, nth0, qu2]
        · rw [if_neg (fun h => h2 h.2)] at IH
          by_cases h3 : jmp l m b i < lo
          · have h4 : 0 < (l.getD i zz3).2.1 := by omega
            rw [if_pos ⟨h3, h4⟩] at IH; simp (disch := omega) only [dT, nI, Bool.and_true, eJ, Int.toNat_natCast, dF, la, big0, qfg, qvt, Bool.and_false, qgc, IH, qga, qa6, nth0, qu2]
          · rw [if_neg (fun h => h3 h.1)] at IH; simp (disch := omega) only [dT, nI, Bool.and_true, eJ, Int.toNat_natCast, dF, la, big0, qfg, qvt, Bool.and_false, qgc, IH, qga, qa6, nth0, qu2]
      · rw [if_neg (fun h => h1 h.1)] at IH
        by_cases h3 : jmp l m b i < lo
        · by_cases h4 : 0 < (l.getD i zz3).2.1
          · rw [if_pos ⟨h3, h4⟩] at IH; simp (disch := omega) only [dT, nI, Bool.and_true, eJ, Int.toNat_natCast, la, big0, qfg, qvt, dF, Bool.and_false, qgc, IH, qa6, nth0, qu2, qga]
          · rw [if_neg (fun h => h4 h.2)] at IH; simp (disch := omega) only [dT, nI, Bool.and_true, eJ, Int.toNat_natCast, la, big0, qfg, qvt, dF, Bool.and_false, qgc, IH, qga, qa6, nth0, qu2]
        · rw [if_neg (fun h => h3 h.1)] at IH; simp (disch := omega) only [dT, nI, Bool.and_true, eJ, Int.toNat_natCast, la, big0, qfg, qvt, dF, Bool.and_false, qgc, IH, qa6, nth0, qu2, qga]
    · simp (disch := omega) only [dF, dT, nI, Bool.and_false, Int.toNat_natCast, big0, qfg, qvt, Bool.false_and, qga]
      rw [show i = l.length by omega]
theorem qd5 (k : Nat) (hk : 2000000 ≤ k) (hi lo r : Int) (z1 z2 z3 z4 : Bool) (l : List Cell) (m t b : List Int) (F : StF r l m t b) :
    go (k + 3) spec_l16Wishes [.agg [.int .i64 (r), .arr false (z1) (.r3 (l)), .arr false (z2) (.ints .i64 (m)), .arr false (z3) (.ints .i64 (t)), .arr false (z4) (.ints .i64 (b))], .int .i64 hi, .int .i64 lo] = some [.arr true false (.ints .i64 (tab l.length (wsh l m b hi lo)))] := by
  rw [qke]
  have L := F.len
  exact qow k hk [] hi lo r z1 z2 z3 z4 l m t b F _ 0 (by omega) (by omega)
theorem qb1 (k : Nat) (hk : 2000000 ≤ k) (hi lo r : Int) (z1 z2 z3 z4 : Bool) (l : List Cell) (m t b : List Int) (F : StF r l m t b) :
    go (k + 9) impl_Wishes [.agg [.int .i64 (r), .arr false (z1) (.r3 (l)), .arr false (z2) (.ints .i64 (m)), .arr false (z3) (.ints .i64 (t)), .arr false (z4) (.ints .i64 (b))], .int .i64 hi, .int .i64 lo] = some [.arr true false (.ints .i64 (tab l.length (wsh l m b hi lo)))] := by
  rw [qh3]
  have L := F.len; have ml := F.ml; have bl := F.bl; have rr := F.rr
  have g := stF.2 F
  simp (disch := omega) only [qbz, g, bit, nI, qa6, nth0, qu1, Bool.not_true, qga]
  exact qn1 k hk [] hi lo r z1 z2 z3 z4 l m t b F _ 0 (by omega) (by omega)
end Go.Proofs.YtoldpdhhfmlckaaGreat
end
section
namespace Go.Proofs.YtoldpdhhfmlckaaGreat
open Go.Ev
set_option maxRecDepth 20000
def qno (x : Cell) : List Cell → Nat → Int
  | [], _ => -1
  | y :: r, i => if y = x then (i : Int) else qno x r (i + 1)
def lof (l : List Cell) (x : Cell) : Int := qno x l 0
theorem qop (k : Nat) (hk : 2000000 ≤ k) (fu : List (Nat × Nat)) (r : Int) (z : Bool) (l : List Cell) (x : Cell) (hl : l.length ≤ 1048576) : ∀ (N i : Nat), i ≤ l.length → l.length - i < N →
    lp k spec_LeafOf [] fu 2 (N) (qsk (i : Int) z l r x.1 x.2.1 x.2.2) = some [.int .i64 (qno x (l.drop i) i)]
  | 0, i, hi, hN => by omega
  | N + 1, i, hi, hN => by
    rw [qmq]
    by_cases g : i < l.length
    · have IH := qop k hk fu r z l x hl N (i + 1) (by omega) (by omega)
      rw [qgl g zz3, qno]
      by_cases h : l.getD i zz3 = x
      · rw [if_pos h]; simp (disch := omega) only [nI, dT, Bool.and_true, Int.toNat_natCast, h, dTT, qfg, qvt, qgc]
      · rw [if_neg h]
        have : (decide ((l.getD i zz3).1 = x.1) && (decide ((l.getD i zz3).2.1 = x.2.1) && decide ((l.getD i zz3).2.2 = x.2.2))) = false := by
          rw [← Bool.not_eq_true]
          intro e
          simp only [Bool.and_eq_true, decide_eq_true_eq] at e
          exact h (Prod.ext e.1 (Prod.ext e.2.1 e.2.2))
        simp (disch := omega) only [nI, dT, Bool.and_true, Int.toNat_natCast, this, qfg, qvt, IH, qga, qgc]
    · rw [List.drop_of_length_le (by omega)]; simp (disch := omega) only [nI, dF, dT, Bool.and_false, Int.toNat_natCast, Bool.and_true, qfg, qvt, qga]; rfl
theorem qdv (k : Nat) (hk : 2000000 ≤ k) (r : Int) (z : Bool) (l : List Cell) (x : Cell) (hl : l.length ≤ 1048576) : go (k + 1) spec_LeafOf [.agg [.int .i64 r, .arr false z (.r3 l)], .agg [.int .i64 x.1, .int .i64 x.2.1, .int .i64 x.2.2]] = some [.int .i64 (lof l x)] := by
  rw [qi4]
  exact qop k hk [] r z l x hl _ 0 (by omega) (by omega)
theorem qnp (x : Cell) : ∀ (l : List Cell) (i : Nat), (qno x l i = -1 ∧ x ∉ l) ∨ ∃ j, j < l.length ∧ qno x l i = ((i + j : Nat) : Int) ∧ l.getD j zz3 = x
  | [], i => Or.inl ⟨rfl, by simp⟩
  | y :: r, i => by
    unfold qno
    by_cases h : y = x
    · rw [if_pos h]; exact Or.inr ⟨0, by simp, by simp, by simpa using h⟩
    · rw [if_neg h]
      rcases qnp x r (i + 1) with ⟨e, n⟩ | ⟨j, hj, e, n⟩
      · exact Or.inl ⟨e, by simp only [List.mem_cons, not_or]; exact ⟨fun e => h e.symm, n⟩⟩
      · exact Or.inr ⟨j + 1, by simp; omega, by rw [e]; congr 1; omega, by simpa using n⟩
theorem qnq (l : List Cell) (x : Cell) : (lof l x = -1 ∧ x ∉ l) ∨ ∃ j, j < l.length ∧ lof l x = (j : Int) ∧ l.getD j zz3 = x := by
  rcases qnp x l 0 with h | ⟨j, hj, e, n⟩
  · exact Or.inl h
  · exact Or.inr ⟨j, hj, by unfold lof; rw [e, Nat.zero_add], n⟩
theorem qp9 : ∀ (l : List Cell) (p : Int), okp p l = true → ∀ x ∈ l, p ≤ qt0 x.1 x.2.1 x.2.2
  | [], p, h, x, hx => by cases hx
  | y :: l, p, h, x, hx => by
    rw [qp8] at h
    rcases List.mem_cons.1 hx with rfl | hx
    · omega
    · have := qp9 l _ h.2.2 x hx
      have := qvn y.2.1
      omega
theorem qvq {x : Cell} (h : idOk x.1 x.2.1 x.2.2 = true) : 1 ≤ qvl x.2.1 := by
  rcases lev (qle.2 (qlb.1 h).2.1) with e | e | e | e | e <;> rw [e] <;> decide
theorem qqa : ∀ (l : List Cell) (p : Int), okp p l = true → ∀ i j, i < l.length → j < l.length → l.getD i zz3 = l.getD j zz3 → i = j
  | [], p, h, i, j, hi, hj, e => by simp at hi
  | y :: l, p, h, 0, 0, hi, hj, e => rfl
  | y :: l, p, h, 0, j + 1, hi, hj, e => by
    rw [qp8] at h
    have hj' : j < l.length := by simpa using hj
    have := qp9 l _ h.2.2 _ (qk1 hj' zz3)
    have w := qvq h.1
    simp only [List.getD_cons_zero, List.getD_cons_succ] at e
    rw [← e, h.2.1] at this
    omega
  | y :: l, p, h, i + 1, 0, hi, hj, e => by
    rw [qp8] at h
    have hi' : i < l.length := by simpa using hi
    have := qp9 l _ h.2.2 _ (qk1 hi' zz3)
    have w := qvq h.1
    simp only [List.getD_cons_zero, List.getD_cons_succ] at e
    rw [e, h.2.1] at this
    omega
  | y :: l, p, h, i + 1, j + 1, hi, hj, e => by
    rw [qp8] at h
    have := qqa l _ h.2.2 i j (by simpa using hi) (by simpa using hj) (by simpa using e)
    omega
def Pw (w : List Int) (l0 : List Cell) (x : Cell) : Bool := decide (0 ≤ lof l0 x) && decide (w.getD (lof l0 x).toNat 0 = -1)
theorem qag {w : List Int} {l0 : List Cell} {p : Int} (h : okp p l0 = true) (x : Cell) : Pw w l0 x = true ↔ ∃ j, j < l0.length ∧ w.getD j 0 = -1 ∧ l0.getD j zz3 = x := by
  unfold Pw
  rw [Bool.and_eq_true, decide_eq_true_eq, decide_eq_true_eq]
  rcases qnq l0 x with ⟨e, n⟩ | ⟨j, hj, e, n⟩
  · rw [e]
    refine ⟨fun h => by omega, fun ⟨j, hj, _, hx⟩ => absurd (hx ▸ qk1 hj zz3) n⟩
  · rw [e, Int.toNat_natCast]
    refine ⟨fun h => ⟨j, hj, h.2, n⟩, fun ⟨q, hq, hw, hx⟩ => ⟨by omega, ?_⟩⟩
    have := qqa l0 p h q j hq hj (by rw [hx, n])
    rw [← this]; exact hw
def ks (w : List Int) (l0 : List Cell) : Nat → List Cell → List Cell
  | 0, acc => acc
  | n + 1, acc => ks w l0 n (if w.getD n 0 = 1 then acc else if w.getD n 0 = -1 then acc ++ [l0.getD n zz3] else acc)
theorem qlu (w : List Int) (l0 : List Cell) (x : Cell) : ∀ (n : Nat) (acc : List Cell), x ∈ ks w l0 n acc ↔ x ∈ acc ∨ ∃ j, j < n ∧ w.getD j 0 = -1 ∧ l0.getD j zz3 = x
  | 0, acc => ⟨Or.inl, fun h => h.elim id fun ⟨j, hj, _⟩ => by omega⟩
  | n + 1, acc => by
    rw [ks, qlu w l0 x n]
    by_cases h1 : w.getD n 0 = 1
    · rw [if_pos h1]
      refine ⟨fun h => h.imp id fun ⟨j, hj, e⟩ => ⟨j, by omega, e⟩, fun h => h.imp id fun ⟨j, hj, e, e'⟩ => ⟨j, ?_, e, e'⟩⟩
      by_cases hjn : j = n
      · subst hjn; omega
      · omega
    · rw [if_neg h1]
      by_cases h2 : w.getD n 0 = -1
      · rw [if_pos h2, List.mem_append, List.mem_singleton]
        refine ⟨fun h => ?_, fun h => ?_⟩
        · rcases h with (h | h) | ⟨j, hj, e⟩
          · exact Or.inl h
          · exact Or.inr ⟨n, by omega, h2, h.symm⟩
          · exact Or.inr ⟨j, by omega, e⟩
        · rcases h with h | ⟨j, hj, e, e'⟩
          · exact Or.inl (Or.inl h)
          · by_cases hjn : j = n
            · subst hjn; exact Or.inl (Or.inr e'.symm)
            · exact Or.inr ⟨j, by omega, e, e'⟩
      · rw [if_neg h2]
        refine ⟨fun h => h.imp id fun ⟨j, hj, e⟩ => ⟨j, by omega, e⟩, fun h => h.imp id fun ⟨j, hj, e, e'⟩ => ⟨j, ?_, e, e'⟩⟩
        by_cases hjn : j = n
        · subst hjn; exact absurd e h2
        · omega
theorem qk8 (l : List Cell) (x : Cell) : hasK l x = true ↔ x ∈ l := by
  unfold hasK
  rw [List.any_eq_true]
  refine ⟨fun ⟨y, hy, e⟩ => ?_, fun h => ⟨x, h, by simp [eqK]⟩⟩
  have : x = y := by
    simp only [eqK, Bool.and_eq_true, beq_iff_eq, decide_eq_true_eq] at e
    exact Prod.ext e.1 (Prod.ext e.2.1 e.2.2)
  rw [this]; exact hy
theorem qk7 {w : List Int} {l0 : List Cell} {p : Int} (h : okp p l0 = true) (x : Cell) : hasK (ks w l0 l0.length []) x = Pw w l0 x := by
  rw [Bool.eq_iff_iff, qk8, qlu, qag h]
  simp
def adS (w : List Int) (s : S3) : S3 := mgS (Pw w s.1) 128 0 (lvS 128 (spS w s.1.length s))
set_option maxHeartbeats 1000000 in
theorem qo5 (k : Nat) (hk : 2000000 ≤ k) (fu : List (Nat × Nat)) (z1 z2 z3 z4 : Bool) (l0 : List Cell) (m0 t0 b0 : List Int) (r0 : Int) (q1 : Bool) (p1 : List Cell) (q2 : Bool) (p2 : List Int) (q3 : Bool) (p3 : List Int) (q4 : Bool) (p4 : List Int) (x18 : Int) (zw : Bool) (w : List Int) (r : Int) (b : List Int) (hl0 : l0.length ≤ 128) (hw : w.length = l0.length) : ∀ (F N i : Nat) (s : S3), s.1.length - i ≤ F → F < N → i + F ≤ 4096 → StU r s b →
    lp (k + 6) spec_l17Adapt [] fu 10 (N) (qs1 (i : Int) z1 l0 z2 m0 z3 t0 z4 b0 r0 q1 p1 q2 p2 q3 p3 q4 p4 x18 zw w false s.1 false s.2.1 false s.2.2 false b r) = some [.agg [.int .i64 (r), .arr true (false) (.r3 ((mgS (Pw w l0) F i s).1)), .arr true (false) (.ints .i64 ((mgS (Pw w l0) F i s).2.1)), .arr true (false) (.ints .i64 ((mgS (Pw w l0) F i s).2.2)), .arr true (false) (.ints .i64 (b))]]
  | F, 0, i, s, hF, hN, hi, U => by omega
  | 0, N + 1, i, s, hF, hN, hi, U => by
    rw [qm7]
    have L := U.len; have ml := U.ml; have tl := U.tl
    simp (disch := omega) only [qfg, qvt, nI, dF, dT, Bool.and_false, Int.toNat_natCast, bit, qga]; rfl
  | F + 1, N + 1, i, s, hF, hN, hi, U => by
    rw [qm7]
    have L := U.len; have ml := U.ml; have tl := U.tl
    unfold mgS
    by_cases g : i + 1 < s.1.length
    · rw [if_pos g]
      have IH0 := qo5 k hk fu z1 z2 z3 z4 l0 m0 t0 b0 r0 q1 p1 q2 p2 q3 p3 q4 p4 x18 zw w r b hl0 hw F N (i + 1) s (by omega) (by omega) (by omega) U
      have eX := qdv (k + 5) (by omega) r0 z1 l0 (s.1.getD i zz3) (by omega)
      have eY := qdv (k + 5) (by omega) r0 z1 l0 (s.1.getD (i + 1) zz3) (by omega)
      have eM := qep (k + 2) (by omega) r false s.1 U.mesh i g
      rcases qnq l0 (s.1.getD i zz3) with ⟨ex, _⟩ | ⟨j, hj, ex, _⟩
      · have pX : Pw w l0 (s.1.getD i zz3) = false := by unfold Pw; rw [ex]; simp
        rw [ex] at eX
        rw [if_neg (by rw [pX]; simp)]
        simp (disch := omega) only [qfg, qvt, nI, dT, Bool.and_true, Int.toNat_natCast, eX, eY, bit, IH0, qa6, nth0, qu2, qgc, dF, qga]
      have pX : Pw w l0 (s.1.getD i zz3) = decide (w.getD j 0 = -1) := by unfold Pw; rw [ex]; simp
      rw [ex] at eX
      rcases qnq l0 (s.1.getD (i + 1) zz3) with ⟨ey, _⟩ | ⟨q, hq, ey, _⟩
      · have pY : Pw w l0 (s.1.getD (i + 1) zz3) = false := by unfold Pw; rw [ey]; simp
        rw [ey] at eY
        rw [if_neg (by rw [pY]; simp)]
        simp (disch := omega) only [qfg, qvt, nI, dT, Bool.and_true, Int.toNat_natCast, eX, eY, bit, IH0, qa6, nth0, qu2, dF, qga, qgc]
      have pY : Pw w l0 (s.1.getD (i + 1) zz3) = decide (w.getD q 0 = -1) := by unfold Pw; rw [ey]; simp
      rw [ey] at eY
      by_cases h1 : w.getD j 0 = -1
      · by_cases h2 : w.getD q 0 = -1
        · rw [dT h1] at pX
          rw [dT h2] at pY
          cases hm : mayC s.1 i
          · rw [if_neg (by rw [pX, pY]; simp)]
            simp (disch := omega) only [qfg, qvt, nI, dT, Bool.and_true, Int.toNat_natCast, eX, eY, eM, hm, bit, IH0, qa6, nth0, qu1, qga, qu2, h2, dTT, qgc, h1]
          · have hs := hm
            simp only [mayC, Bool.and_eq_true] at hs
            have sl := qtk hs.1
            have U' := cm_U U g hs.1
            have ln := qpj g
            have IH1 := qo5 k hk fu z1 z2 z3 z4 l0 m0 t0 b0 r0 q1 p1 q2 p2 q3 p3 q4 p4 x18 zw w r b hl0 hw F N (i + 1) (cmS s i) (by show (qpi s.1 i).length - (i + 1) ≤ F; omega) (by omega) (by omega) U'
            have eG := qeu (k + 1) (by omega) r s b U i g sl
            rw [if_pos (by rw [pX, pY]; simp)]
            simp (disch := omega) only [qfg, qvt, nI, dT, Bool.and_true, Int.toNat_natCast, eX, eY, eM, hm, bit, eG, qa6, nth0, qfj, qp3, qqu, qfu, qlg, qfw, qfx, qfi, qu2, IH1, qu1, qgc, h2, dTT, h1]
        · rw [dF h2] at pY
          rw [if_neg (by rw [pY]; simp)]
          simp (disch := omega) only [qfg, qvt, nI, dT, Bool.and_true, Int.toNat_natCast, eX, eY, bit, IH0, qa6, nth0, qu2, h2, dFF, qga, qgc, h1, dTT]
      · rw [dF h1] at pX
        rw [if_neg (by rw [pX]; simp)]
        simp (disch := omega) only [qfg, qvt, nI, dT, Bool.and_true, Int.toNat_natCast, eX, eY, bit, IH0, qa6, nth0, qu2, qgc, h1, dFF, qga]
    · rw [if_neg g]; simp (disch := omega) only [qfg, qvt, nI, dF, dT, Bool.true_and, Int.toNat_natCast, Bool.and_false, bit, qga]
theorem qo8 (k : Nat) (hk : 2000000 ≤ k) (fu : List (Nat × Nat)) (z1 z2 z3 z4 : Bool) (l0 : List Cell) (m0 t0 b0 : List Int) (r0 : Int) (q1 : Bool) (p1 : List Cell) (q2 : Bool) (p2 : List Int) (q3 : Bool) (p3 : List Int) (q4 : Bool) (p4 : List Int) (x18 : Int) (zw : Bool) (w : List Int) (r : Int) (b : List Int) (hl0 : l0.length ≤ 128) (hw : w.length = l0.length) (hw1 : ∀ j, w.getD j 0 = 1 → qnj l0 j < 4) : ∀ (N n : Nat) (s : S3), n < N → n ≤ l0.length → n ≤ s.1.length → (∀ j, j < n → s.1.getD j zz3 = l0.getD j zz3) → StU r s b →
    lp (k + 6) spec_l17Adapt [] fu 4 (N) (qs2 ((n : Int) - 1) z1 l0 z2 m0 z3 t0 z4 b0 r0 q1 p1 q2 p2 q3 p3 q4 p4 x18 zw w false s.1 false s.2.1 false s.2.2 false b r) = some [.agg [.int .i64 (r), .arr true (false) (.r3 ((mgS (Pw w l0) 128 0 (lvS 128 (spS w n s))).1)), .arr true (false) (.ints .i64 ((mgS (Pw w l0) 128 0 (lvS 128 (spS w n s))).2.1)), .arr true (false) (.ints .i64 ((mgS (Pw w l0) 128 0 (lvS 128 (spS w n s))).2.2)), .arr true (false) (.ints .i64 (b))]]
  | 0, n, s, hN, hn, hs, he, U => by omega
  | N + 1, 0, s, hN, hn, hs, he, U => by
    rw [qm8]
    have L := U.len
    have eL := qfb k (by omega) r s b U
    have U' := (qnr 128 s U (by omega)).1
    have L' := U'.len
    have e := qo5 k hk fu z1 z2 z3 z4 l0 m0 t0 b0 r0 q1 p1 q2 p2 q3 p3 q4 p4 x18 zw w r b hl0 hw 128 (k + 6) 0 (lvS 128 s) (by omega) (by omega) (by omega) U'
    rw [show ((0 : Nat) : Int) = 0 from rfl] at e ⊢
    simp (disch := omega) only [dF, nI, dT, Bool.and_true, qvt, qga, eL, qa6, nth0, qfj, qp3, qqu, qfu, qlg, qfw, qfx, qfi, qu2, e]
    rfl
  | N + 1, n + 1, s, hN, hn, hs, he, U => by
    rw [show ((n + 1 : Nat) : Int) - 1 = (n : Int) by omega, qm8]
    have L := U.len
    unfold spS
    by_cases h1 : w.getD n 0 = 1
    · rw [if_pos h1]
      have hl : qnj s.1 n < 4 := by have := hw1 n h1; unfold qnj at *; rw [he n (by omega)]; exact this
      have U' := rf_U U (show n < s.1.length by omega) hl
      have ln := qts (show n < s.1.length by omega)
      have IH := qo8 k hk fu z1 z2 z3 z4 l0 m0 t0 b0 r0 q1 p1 q2 p2 q3 p3 q4 p4 x18 zw w r b hl0 hw hw1 N n (rfS s n) (by omega) (by omega) (by show n ≤ (qtr s.1 n).length; omega) (fun j hj => by
        show (qtr s.1 n).getD j zz3 = _
        rw [qtt (by omega) hj]; exact he j (by omega)) U'
      have eS := qev (k + 1) (by omega) r s b U n (by omega) hl
      simp (disch := omega) only [dT, nI, Bool.and_true, Int.toNat_natCast, h1, dTT, eS, qvt, qa6, nth0, qfj, qp3, qqu, qfu, qlg, qfw, qfx, qfi, qu2, IH, qgc]
    · rw [if_neg h1]
      have IH := qo8 k hk fu z1 z2 z3 z4 l0 m0 t0 b0 r0 q1 p1 q2 p2 q3 p3 q4 p4 x18 zw w r b hl0 hw hw1 N n s (by omega) (by omega) (by omega) (fun j hj => he j (by omega)) U
      simp (disch := omega) only [dT, nI, Bool.and_true, Int.toNat_natCast, dF, qvt, IH, qga, qgc]
theorem qvv {l : List Cell} {m b : List Int} {hi lo : Int} (j : Nat) (h : (tab l.length (wsh l m b hi lo)).getD j 0 = 1) : qnj l j < 4 := by
  by_cases hj : j < l.length
  · rw [qul hj] at h
    unfold wsh at h
    by_cases c : hi < jmp l m b j ∧ qnj l j < 4
    · exact c.2
    · rw [if_neg c] at h
      split at h <;> omega
  · rw [qk0 (by rw [qum]; omega)] at h; omega
theorem qe4 (k : Nat) (hk : 2000000 ≤ k) (r : Int) (l : List Cell) (m t b : List Int) (F : StF r l m t b) (hi lo : Int) :
    go (k + 7) spec_l17Adapt [.agg [.int .i64 (r), .arr false (false) (.r3 (l)), .arr false (false) (.ints .i64 (m)), .arr false (false) (.ints .i64 (t)), .arr false (false) (.ints .i64 (b))], .int .i64 hi, .int .i64 lo] = some [.agg [.int .i64 (r), .arr true (false) (.r3 ((adS (tab l.length (wsh l m b hi lo)) (l, m, t)).1)), .arr true (false) (.ints .i64 ((adS (tab l.length (wsh l m b hi lo)) (l, m, t)).2.1)), .arr true (false) (.ints .i64 ((adS (tab l.length (wsh l m b hi lo)) (l, m, t)).2.2)), .arr true (false) (.ints .i64 (b))]] := by
  rw [qkf]
  have L := F.len; have ml := F.ml; have tl := F.tl; have bl := F.bl; have rr := F.rr
  have eW := qd5 (k + 3) (by omega) hi lo r false false false false l m t b F
  simp (disch := omega) only [eW, qer, nI, qa6, nth0, qfj, qp3, qqu, qfu, qlg, qfw, qfx, qfi, qu2, qum, qvt]
  exact qo8 k hk [] false false false false l m t b r true [] true [] true [] true [] 0 false _ r b (by omega) (qum _ _) qvv (k + 6) l.length (l, m, t) (by omega) (by omega) (by show l.length ≤ l.length; omega) (fun j hj => rfl) F.toU
set_option maxHeartbeats 1000000 in
theorem qn6 (k : Nat) (hk : 2000000 ≤ k) (fu : List (Nat × Nat)) (w0 : Int) (v1 : Bool) (w1 : List Cell) (v2 : Bool) (w2 : List Int) (v3 : Bool) (w3 : List Int) (v4 : Bool) (w4 : List Int) (r : Int) (b : List Int) (K : List Cell) (P : Cell → Bool) (hP : ∀ x, hasK K x = P x) : ∀ (F N i : Nat) (s : S3), s.1.length - i ≤ F → F < N → i + F ≤ 4096 → StU r s b →
    lp (k + 9) impl_State_adapt [.ptr true [.int .i64 w0, .arr true v1 (.r3 w1), .arr true v2 (.ints .i64 w2), .arr true v3 (.ints .i64 w3), .arr true v4 (.ints .i64 w4)]] fu 12 N (qrw (i : Int) false s.1 false s.2.1 false s.2.2 false b r K) = some [.ptr true [.int .i64 (r), .arr true (false) (.r3 ((mgS P F i s).1)), .arr true (false) (.ints .i64 ((mgS P F i s).2.1)), .arr true (false) (.ints .i64 ((mgS P F i s).2.2)), .arr true (false) (.ints .i64 (b))]]
  | F, 0, i, s, hF, hN, hi, U => by omega
  | 0, N + 1, i, s, hF, hN, hi, U => by
    rw [ql2]
    have L := U.len
    simp (disch := omega) only [qfg, qvt, nI, dF, dT, Bool.and_false, Int.toNat_natCast, bit, qga]; rfl
  | F + 1, N + 1, i, s, hF, hN, hi, U => by
    rw [ql2]
    have L := U.len; have ml := U.ml; have tl := U.tl
    unfold mgS
    by_cases g : i + 1 < s.1.length
    · rw [if_pos g]
      have IH0 := qn6 k hk fu w0 v1 w1 v2 w2 v3 w3 v4 w4 r b K P hP F N (i + 1) s (by omega) (by omega) (by omega) U
      have eM := qcs (k + 3) (by omega) r false s.1 U.mesh i g
      have hx := hP (s.1.getD i zz3); have hy := hP (s.1.getD (i + 1) zz3)
      cases p1 : P (s.1.getD i zz3)
      · rw [p1] at hx
        rw [if_neg (by simp)]
        simp (disch := omega) only [qfg, qvt, nI, dT, Bool.and_true, Int.toNat_natCast, hx, bit, IH0, qgc, qga]
      rw [p1] at hx
      cases p2 : P (s.1.getD (i + 1) zz3)
      · rw [p2] at hy
        rw [if_neg (by simp)]
        simp (disch := omega) only [qfg, qvt, nI, dT, Bool.and_true, Int.toNat_natCast, hx, hy, bit, IH0, qga, qgc]
      rw [p2] at hy
      cases hm : mayC s.1 i
      · rw [if_neg (by simp)]
        simp (disch := omega) only [qfg, qvt, nI, dT, Bool.and_true, Int.toNat_natCast, hx, hy, eM, hm, bit, IH0, qa6, nth0, qu1, qga, qgc]
      · have hs := hm
        simp only [mayC, Bool.and_eq_true] at hs
        have sl := qtk hs.1
        have U' := cm_U U g hs.1
        have ln := qpj g
        have IH1 := qn6 k hk fu w0 v1 w1 v2 w2 v3 w3 v4 w4 r b K P hP F N (i + 1) (cmS s i) (by show (qpi s.1 i).length - (i + 1) ≤ F; omega) (by omega) (by omega) U'
        have eG := qb9 (k + 3) (by omega) r s b U i g sl
        rw [if_pos (show (true && (true && true)) = true from rfl)]
        simp (disch := omega) only [qfg, qvt, nI, dT, Bool.and_true, Int.toNat_natCast, hx, hy, eM, hm, bit, eG, qa6, nth0, qqs, qp3, qqu, qqt, qlg, qu5, qu6, qqr, qu2, IH1, qu1, qgc]
    · rw [if_neg g]; simp (disch := omega) only [qfg, qvt, nI, dF, dT, Bool.true_and, Int.toNat_natCast, Bool.and_false, bit, qga]
theorem qoa (k : Nat) (hk : 2000000 ≤ k) (fu : List (Nat × Nat)) (w0 : Int) (v1 : Bool) (w1 : List Cell) (v2 : Bool) (w2 : List Int) (v3 : Bool) (w3 : List Int) (v4 : Bool) (w4 : List Int) (r : Int) (b : List Int) (l0 : List Cell) (zw : Bool) (w : List Int) (P : Cell → Bool) (hl0 : l0.length ≤ 128) (hw : w.length = l0.length) (hw1 : ∀ j, w.getD j 0 = 1 → qnj l0 j < 4) : ∀ (N n : Nat) (s : S3) (acc : List Cell), n < N → n ≤ l0.length → n ≤ s.1.length → (∀ j, j < n → s.1.getD j zz3 = l0.getD j zz3) → StU r s b → (∀ x, hasK (ks w l0 n acc) x = P x) →
    lp (k + 9) impl_State_adapt [.ptr true [.int .i64 w0, .arr true v1 (.r3 w1), .arr true v2 (.ints .i64 w2), .arr true v3 (.ints .i64 w3), .arr true v4 (.ints .i64 w4)]] fu 3 N (qrx ((n : Int) - 1) false s.1 false s.2.1 false s.2.2 false b r zw w acc) = some [.ptr true [.int .i64 (r), .arr true (false) (.r3 ((mgS P 128 0 (lvS 128 (spS w n s))).1)), .arr true (false) (.ints .i64 ((mgS P 128 0 (lvS 128 (spS w n s))).2.1)), .arr true (false) (.ints .i64 ((mgS P 128 0 (lvS 128 (spS w n s))).2.2)), .arr true (false) (.ints .i64 (b))]]
  | 0, n, s, acc, hN, hn, hs, he, U, hK => by omega
  | N + 1, 0, s, acc, hN, hn, hs, he, U, hK => by
    rw [ql3]
    have L := U.len
    have eL := qb7 (k + 5) (by omega) r s b U
    have U' := (qnr 128 s U (by omega)).1
    have L' := U'.len
    have e := qn6 k hk fu w0 v1 w1 v2 w2 v3 w3 v4 w4 r b acc P hK 128 (k + 9) 0 (lvS 128 s) (by omega) (by omega) (by omega) U'
    rw [show ((0 : Nat) : Int) = 0 from rfl] at e ⊢
    simp (disch := omega) only [dF, nI, dT, Bool.and_true, qvt, qga, eL, qa6, nth0, qqs, qp3, qqu, qqt, qlg, qu5, qu6, qqr, qu2, e]
    rfl
  | N + 1, n + 1, s, acc, hN, hn, hs, he, U, hK => by
    rw [show ((n + 1 : Nat) : Int) - 1 = (n : Int) by omega, ql3]
    have L := U.len
    unfold spS
    unfold ks at hK
    by_cases h1 : w.getD n 0 = 1
    · rw [if_pos h1]
      rw [if_pos h1] at hK
      have hl : qnj s.1 n < 4 := by have := hw1 n h1; unfold qnj at *; rw [he n (by omega)]; exact this
      have U' := rf_U U (show n < s.1.length by omega) hl
      have ln := qts (show n < s.1.length by omega)
      have IH := qoa k hk fu w0 v1 w1 v2 w2 v3 w3 v4 w4 r b l0 zw w P hl0 hw hw1 N n (rfS s n) acc (by omega) (by omega) (by show n ≤ (qtr s.1 n).length; omega) (fun j hj => by
        show (qtr s.1 n).getD j zz3 = _
        rw [qtt (by omega) hj]; exact he j (by omega)) U' hK
      have eS := qcy (k + 6) (by omega) r s b U n (by omega) hl
      simp (disch := omega) only [dT, nI, Bool.and_true, Int.toNat_natCast, h1, dTT, eS, qvt, qa6, nth0, qqs, qp3, qqu, qqt, qlg, qu5, qu6, qqr, qu2, IH, dF, qgc, qga]
    · rw [if_neg h1]
      rw [if_neg h1] at hK
      by_cases h2 : w.getD n 0 = -1
      · rw [if_pos h2] at hK
        have IH := qoa k hk fu w0 v1 w1 v2 w2 v3 w3 v4 w4 r b l0 zw w P hl0 hw hw1 N n s _ (by omega) (by omega) (by omega) (fun j hj => he j (by omega)) U hK
        have hen := he n (by omega)
        simp (disch := omega) only [dT, nI, Bool.and_true, Int.toNat_natCast, h2, dF, qvt, dTT, hen, IH, qgc, qga]
      · rw [if_neg h2] at hK
        have IH := qoa k hk fu w0 v1 w1 v2 w2 v3 w3 v4 w4 r b l0 zw w P hl0 hw hw1 N n s acc (by omega) (by omega) (by omega) (fun j hj => he j (by omega)) U hK
        simp (disch := omega) only [dT, nI, Bool.and_true, Int.toNat_natCast, dF, qvt, qgc, IH, qga]
theorem qb6 (k : Nat) (hk : 2000000 ≤ k) (r : Int) (l : List Cell) (m t b : List Int) (F : StF r l m t b) (hi lo : Int) :
    go (k + 10) impl_State_adapt [.ptr true [.int .i64 (r), .arr true (false) (.r3 (l)), .arr true (false) (.ints .i64 (m)), .arr true (false) (.ints .i64 (t)), .arr true (false) (.ints .i64 (b))], .int .i64 hi, .int .i64 lo] = some [.ptr true [.int .i64 (r), .arr true (false) (.r3 ((adS (tab l.length (wsh l m b hi lo)) (l, m, t)).1)), .arr true (false) (.ints .i64 ((adS (tab l.length (wsh l m b hi lo)) (l, m, t)).2.1)), .arr true (false) (.ints .i64 ((adS (tab l.length (wsh l m b hi lo)) (l, m, t)).2.2)), .arr true (false) (.ints .i64 (b))]] := by
  rw [qhi]
  have L := F.len; have ml := F.ml; have tl := F.tl; have bl := F.bl; have rr := F.rr
  have eW := qb1 k (by omega) hi lo r false false false false l m t b F
  simp (disch := omega) only [eW, nI, qa6, nth0, qlg, qum, qvt, qp3]
  have hP := qk7 (w := tab l.length (wsh l m b hi lo)) (qpo.1 F.mesh).1
  exact qoa k hk [] _ _ _ _ _ _ _ _ _ r b l false _ _ (by omega) (qum _ _) qvv (k + 9) l.length (l, m, t) [] (by omega) (by omega) (by show l.length ≤ l.length; omega) (fun j hj => rfl) F.toU hP
theorem ad_U {r : Int} {l : List Cell} {m t b : List Int} (F : StF r l m t b) (hi lo : Int) : StF r (adS (tab l.length (wsh l m b hi lo)) (l, m, t)).1 (adS (tab l.length (wsh l m b hi lo)) (l, m, t)).2.1 (adS (tab l.length (wsh l m b hi lo)) (l, m, t)).2.2 b := by
  have U := qtp (tab l.length (wsh l m b hi lo)) l qvv l.length (l, m, t) F.toU (Nat.le_refl _) (fun j hj => rfl)
  have V := qnr 128 _ U (by have := U.len; omega)
  exact (qpu _ 128 0 _ V.1).toF (qpw _ 128 0 _ V.2)
end Go.Proofs.YtoldpdhhfmlckaaGreat
end
section
namespace Go.Proofs.YtoldpdhhfmlckaaGreat
open Go.Ev
abbrev S2 := List Int × List Int
structure Ld where
  mi : Int
  mo : Int
  ti : Int
  ou : Int
structure Pl where
  bi : Int
  bs : Int
  bo : Int
  rain : Int
  loss : Int
  dec : Int
  high : Int
  low : Int
  every : Int
def Ld.add (a b : Ld) : Ld := ⟨a.mi + b.mi, a.mo + b.mo, a.ti + b.ti, a.ou + b.ou⟩
structure Led (s s' : S2) (l : Ld) : Prop where
  m : isum s'.1 = isum s.1 + l.mi - l.mo
  t : isum s'.2 = isum s.2 + l.ti - l.ou
  mi : 0 ≤ l.mi ∧ l.mi ≤ 10000000
  mo : 0 ≤ l.mo ∧ l.mo ≤ 10000000
  ti : 0 ≤ l.ti ∧ l.ti ≤ 10000000000
  ou : 0 ≤ l.ou ∧ l.ou ≤ 10000000000
theorem qlo : ∀ (l : List Int) (i : Nat) (x : Int), i < l.length → isum (l.set i x) = isum l - l.getD i 0 + x
  | [], i, x, h => by simp at h
  | y :: l, 0, x, h => by simp only [List.set_cons_zero, isum, List.getD_cons_zero]; omega
  | y :: l, i + 1, x, h => by
    have := qlo l i x (by simpa using h)
    simp only [List.set_cons_succ, isum, List.getD_cons_succ, this]; omega
theorem qua (f g : Nat → Int) : ∀ n, qt9 (fun j => f j + g j) n = qt9 f n + qt9 g n
  | 0 => rfl
  | n + 1 => by have := qua f g n; simp only [qt9]; omega
theorem quf (f g : Nat → Int) : ∀ n, qt9 (fun j => f j - g j) n = qt9 f n - qt9 g n
  | 0 => rfl
  | n + 1 => by have := quf f g n; simp only [qt9]; omega
theorem que {f : Nat → Int} : ∀ n, (∀ j, j < n → 0 ≤ f j) → 0 ≤ qt9 f n
  | 0, h => Int.le_refl _
  | n + 1, h => by have := que n fun j hj => h j (by omega); have := h n (by omega); simp only [qt9]; omega
theorem quc {f g : Nat → Int} : ∀ n, (∀ j, j < n → f j ≤ g j) → qt9 f n ≤ qt9 g n
  | 0, h => Int.le_refl _
  | n + 1, h => by have := quc n fun j hj => h j (by omega); have := h n (by omega); simp only [qt9]; omega
theorem qub {f : Nat → Int} : ∀ (n i : Nat), (∀ j, j < n → 0 ≤ f j) → i < n → f i ≤ qt9 f n
  | 0, i, h, hi => by omega
  | n + 1, i, h, hi => by
    have := que n fun j hj => h j (by omega)
    have := h n (by omega)
    simp only [qt9]
    by_cases e : i = n
    · subst e; omega
    · have := qub n i (fun j hj => h j (by omega)) (by omega); omega
theorem StF.tle {r : Int} {l : List Cell} {m t b : List Int} (F : StF r l m t b) : 0 ≤ isum t ∧ isum t ≤ 10000000000 := by
  have e : isum t ≤ 1000 * isum m := by
    rw [qlp t, qlp m, F.tl, F.ml]
    have : ∀ n, qt9 (fun j => t.getD j 0) n ≤ 1000 * qt9 (fun j => m.getD j 0) n := by
      intro n
      induction n with
      | zero => simp [qt9]
      | succ n ih => have := F.at n; simp only [qt9]; omega
    exact this _
  have := F.tsum; have := F.msum
  omega
theorem StF.mk' {r : Int} {l : List Cell} {m t b m' t' : List Int} (F : StF r l m t b) (hm : m'.length = l.length) (ht : t'.length = l.length) (h : ∀ i, i < l.length → 0 ≤ m'.getD i 0 ∧ 0 ≤ t'.getD i 0 ∧ t'.getD i 0 ≤ 1000 * m'.getD i 0) (hs : isum m' ≤ 10000000) : StF r l m' t' b := by
  refine ⟨F.mesh, F.bal, hm, ht, F.bl, ?_, F.bed, hs⟩
  refine qpf _ _ (by omega) fun i hi => ?_
  have a := h i (by omega)
  have nn : ∀ x ∈ m', 0 ≤ x := by
    intro x hx
    obtain ⟨j, hj, rfl⟩ := List.getElem_of_mem hx
    have := (h j (by omega)).1
    rwa [List.getD_eq_getElem?_getD, List.getElem?_eq_getElem hj, Option.getD_some] at this
  have := qkl m' nn _ (qk1 hi 0)
  exact ⟨⟨a.1, by omega⟩, a.2⟩
def boX (o : Int) (m : List Int) : Int := m.getD (m.length - 1) 0 * o / 1000
def boY (o : Int) (m t : List Int) : Int := qtc (t.getD (m.length - 1) 0) (boX o m) (m.getD (m.length - 1) 0)
def bo1 (o : Int) (s : S2) : S2 := (s.1.set (s.1.length - 1) (s.1.getD (s.1.length - 1) 0 - boX o s.1), s.2.set (s.1.length - 1) (s.2.getD (s.1.length - 1) 0 - boY o s.1 s.2))
def bo2 (a c : Int) (s : S2) : S2 := (s.1.set 0 (s.1.getD 0 0 + a), s.2.set 0 (s.2.getD 0 0 + a * c))
def boS (a c o : Int) (s : S2) : S2 × Ld := if isum (bo1 o s).1 + a ≤ 10000000 then (bo2 a c (bo1 o s), ⟨a, boX o s.1, a * c, boY o s.1 s.2⟩) else (bo1 o s, ⟨0, boX o s.1, 0, boY o s.1 s.2⟩)
section
variable {r : Int} {l : List Cell} {m t b : List Int}
theorem qqg {x y p : Int} (hx : 0 ≤ x ∧ x ≤ 10000000) (hy : 0 ≤ y ∧ y ≤ 1000 * x) (hp : 0 ≤ p ∧ p ≤ x) : (0 ≤ qtc y p x ∧ qtc y p x ≤ y) ∧ y - qtc y p x ≤ 1000 * (x - p) := by
  by_cases h : 1 ≤ x
  · have := qth h hp.1 hp.2 hy.1 hy.2
    rw [qtd h hx.2 hp.1 hp.2 hy.1 hy.2]
    omega
  · have e : qtc y p x = 0 := by
      unfold qtc
      have : inR x 1 10000000 = false := by rw [← Bool.not_eq_true, qle]; omega
      rw [this]; rfl
    rw [e]; omega
theorem qba (F : StF r l m t b) {o : Int} (ho : 0 ≤ o ∧ o ≤ 250) : 0 ≤ boX o m ∧ boX o m ≤ m.getD (m.length - 1) 0 := by
  have a := F.at (m.length - 1)
  unfold boX
  have h1 : 0 ≤ m.getD (m.length - 1) 0 * o := Int.mul_nonneg a.1 ho.1
  have h2 : m.getD (m.length - 1) 0 * o ≤ m.getD (m.length - 1) 0 * 250 := Int.mul_le_mul_of_nonneg_left ho.2 a.1
  omega
theorem qbb (F : StF r l m t b) {o : Int} (ho : 0 ≤ o ∧ o ≤ 250) : (0 ≤ boY o m t ∧ boY o m t ≤ t.getD (m.length - 1) 0) ∧ t.getD (m.length - 1) 0 - boY o m t ≤ 1000 * (m.getD (m.length - 1) 0 - boX o m) := by
  have a := F.at (m.length - 1)
  exact qqg ⟨a.1, a.2.1⟩ a.2.2 (qba F ho)
theorem qs9 {x : List Int} {i j : Nat} {v : Int} (h : i < x.length) : (x.set i v).getD j 0 = if i = j then v else x.getD j 0 := by
  rw [qta]
  by_cases e : i = j
  · rw [if_pos ⟨e, h⟩, if_pos e]
  · rw [if_neg (fun c => e c.1), if_neg e]
theorem qa8 (F : StF r l m t b) {o : Int} (ho : 0 ≤ o ∧ o ≤ 250) : StF r l (bo1 o (m, t)).1 (bo1 o (m, t)).2 b ∧ isum (bo1 o (m, t)).1 = isum m - boX o m ∧ isum (bo1 o (m, t)).2 = isum t - boY o m t := by
  have L := F.len; have ml := F.ml; have tl := F.tl
  have x := qba F ho; have y := qbb F ho
  have e1 : isum (bo1 o (m, t)).1 = isum m - boX o m := by
    show isum (m.set (m.length - 1) (m.getD (m.length - 1) 0 - boX o m)) = _
    rw [qlo _ _ _ (by omega)]; omega
  have e2 : isum (bo1 o (m, t)).2 = isum t - boY o m t := by
    show isum (t.set (m.length - 1) (t.getD (m.length - 1) 0 - boY o m t)) = _
    rw [qlo _ _ _ (by omega)]; omega
  refine ⟨F.mk' (by show (m.set _ _).length = _; rw [List.length_set]; exact ml) (by show (t.set _ _).length = _; rw [List.length_set]; exact tl) (fun i hi => ?_) (by rw [e1]; have := F.msum; omega), e1, e2⟩
  have a := F.at i
  show 0 ≤ (m.set (m.length - 1) (m.getD (m.length - 1) 0 - boX o m)).getD i 0 ∧ 0 ≤ (t.set (m.length - 1) (t.getD (m.length - 1) 0 - boY o m t)).getD i 0 ∧ (t.set (m.length - 1) (t.getD (m.length - 1) 0 - boY o m t)).getD i 0 ≤ 1000 * (m.set (m.length - 1) (m.getD (m.length - 1) 0 - boX o m)).getD i 0
  rw [qs9 (by omega), qs9 (by omega)]
  by_cases g : m.length - 1 = i
  · rw [if_pos g, if_pos g]; omega
  · rw [if_neg g, if_neg g]; omega
theorem qlf {a c : Int} (ha : 0 ≤ a ∧ a ≤ 10000) (hc : 0 ≤ c ∧ c ≤ 1000) : 0 ≤ a * c ∧ a * c ≤ 1000 * a := by
  have h1 := Int.mul_nonneg ha.1 hc.1
  have h2 : a * c ≤ a * 1000 := Int.mul_le_mul_of_nonneg_left hc.2 ha.1
  omega
theorem qa9 (F : StF r l m t b) {a c o : Int} (ha : 0 ≤ a ∧ a ≤ 10000) (hc : 0 ≤ c ∧ c ≤ 1000) (ho : 0 ≤ o ∧ o ≤ 250) : StF r l (boS a c o (m, t)).1.1 (boS a c o (m, t)).1.2 b ∧ Led (m, t) (boS a c o (m, t)).1 (boS a c o (m, t)).2 := by
  obtain ⟨G, e1, e2⟩ := qa8 F ho
  have L := F.len; have ml := F.ml; have tl := F.tl
  have x := qba F ho; have y := (qbb F ho).1; have p := qlf ha hc
  have fa := F.at (m.length - 1)
  unfold boS
  by_cases g : isum (bo1 o (m, t)).1 + a ≤ 10000000
  · rw [if_pos g]
    have gl := G.ml; have gt := G.tl
    have s1 : isum (bo2 a c (bo1 o (m, t))).1 = isum (bo1 o (m, t)).1 + a := by
      show isum ((bo1 o (m, t)).1.set 0 ((bo1 o (m, t)).1.getD 0 0 + a)) = _
      rw [qlo _ _ _ (by omega)]; omega
    have s2 : isum (bo2 a c (bo1 o (m, t))).2 = isum (bo1 o (m, t)).2 + a * c := by
      show isum ((bo1 o (m, t)).2.set 0 ((bo1 o (m, t)).2.getD 0 0 + a * c)) = _
      rw [qlo _ _ _ (by omega)]; omega
    refine ⟨G.mk' (by show (List.set _ _ _).length = _; rw [List.length_set]; exact gl) (by show (List.set _ _ _).length = _; rw [List.length_set]; exact gt) (fun i hi => ?_) (by show isum (bo2 a c (bo1 o (m, t))).1 ≤ _; rw [s1]; exact g), ⟨?_, ?_, ⟨ha.1, by show a ≤ _; omega⟩, ⟨x.1, by show boX o m ≤ _; omega⟩, ⟨p.1, by show a * c ≤ _; omega⟩, ⟨y.1, by show boY o m t ≤ _; omega⟩⟩⟩
    · have q := G.at i
      show 0 ≤ ((bo1 o (m, t)).1.set 0 ((bo1 o (m, t)).1.getD 0 0 + a)).getD i 0 ∧ 0 ≤ ((bo1 o (m, t)).2.set 0 ((bo1 o (m, t)).2.getD 0 0 + a * c)).getD i 0 ∧ ((bo1 o (m, t)).2.set 0 ((bo1 o (m, t)).2.getD 0 0 + a * c)).getD i 0 ≤ 1000 * ((bo1 o (m, t)).1.set 0 ((bo1 o (m, t)).1.getD 0 0 + a)).getD i 0
      rw [qs9 (by omega), qs9 (by omega)]
      by_cases h : 0 = i
      · subst h; rw [if_pos rfl, if_pos rfl]; omega
      · rw [if_neg h, if_neg h]; omega
    · show isum (bo2 a c (bo1 o (m, t))).1 = isum m + a - boX o m; omega
    · show isum (bo2 a c (bo1 o (m, t))).2 = isum t + a * c - boY o m t; omega
  · rw [if_neg g]
    refine ⟨G, ⟨?_, ?_, ⟨Int.le_refl _, by show (0 : Int) ≤ _; omega⟩, ⟨x.1, by show boX o m ≤ _; omega⟩, ⟨Int.le_refl _, by show (0 : Int) ≤ _; omega⟩, ⟨y.1, by show boY o m t ≤ _; omega⟩⟩⟩
    · show isum (bo1 o (m, t)).1 = isum m + 0 - boX o m; omega
    · show isum (bo1 o (m, t)).2 = isum t + 0 - boY o m t; omega
end
def part (a : Int) (l : List Cell) (j : Nat) : Int := a * qvl (qnj l j) / 16
theorem qqk {a : Int} (ha : 0 ≤ a ∧ a ≤ 10000) (l : List Cell) (j : Nat) : 0 ≤ part a l j ∧ part a l j ≤ a := by
  have w := qvn (qnj l j)
  unfold part
  have h1 := Int.mul_nonneg ha.1 w.1
  have h2 : a * qvl (qnj l j) ≤ a * 16 := Int.mul_le_mul_of_nonneg_left w.2 ha.1
  omega
def raS (a : Int) (l : List Cell) (s : S2) : S2 × Ld := if isum s.1 + qt9 (part a l) l.length ≤ 10000000 then ((tab l.length (fun j => s.1.getD j 0 + part a l j), s.2), ⟨qt9 (part a l) l.length, 0, 0, 0⟩) else (s, ⟨0, 0, 0, 0⟩)
def soX (a : Int) (l : List Cell) (m : List Int) (j : Nat) : Int := min (m.getD j 0) (part a l j)
def soY (a : Int) (l : List Cell) (m t : List Int) (j : Nat) : Int := qtc (t.getD j 0) (soX a l m j) (m.getD j 0)
def soS (a : Int) (l : List Cell) (s : S2) : S2 × Ld := ((tab l.length (fun j => s.1.getD j 0 - soX a l s.1 j), tab l.length (fun j => s.2.getD j 0 - soY a l s.1 s.2 j)), ⟨0, qt9 (soX a l s.1) l.length, 0, qt9 (soY a l s.1 s.2) l.length⟩)
def deX (a : Int) (t : List Int) (j : Nat) : Int := t.getD j 0 * a / 1000
def deS (a : Int) (l : List Cell) (s : S2) : S2 × Ld := ((s.1, tab l.length (fun j => s.2.getD j 0 - deX a s.2 j)), ⟨0, 0, 0, qt9 (deX a s.2) l.length⟩)
section
variable {r : Int} {l : List Cell} {m t b : List Int}
theorem qql {a : Int} (ha : 0 ≤ a ∧ a ≤ 10000) (l : List Cell) : ∀ n : Nat, 0 ≤ qt9 (part a l) n ∧ qt9 (part a l) n ≤ 10000 * n
  | 0 => by simp [qt9]
  | n + 1 => by have := qql ha l n; have := qqk ha l n; simp only [qt9]; omega
theorem qqv (F : StF r l m t b) {a : Int} (ha : 0 ≤ a ∧ a ≤ 10000) : StF r l (raS a l (m, t)).1.1 (raS a l (m, t)).1.2 b ∧ Led (m, t) (raS a l (m, t)).1 (raS a l (m, t)).2 := by
  have L := F.len; have ml := F.ml; have tl := F.tl
  have p := qql ha l l.length
  unfold raS
  by_cases g : isum m + qt9 (part a l) l.length ≤ 10000000
  · rw [if_pos g]
    have e1 : isum (tab l.length (fun j => m.getD j 0 + part a l j)) = isum m + qt9 (part a l) l.length := by
      rw [qlq, qua, qlp m, ml]
    refine ⟨F.mk' (qum _ _) tl (fun i hi => ?_) (by show isum (tab l.length (fun j => m.getD j 0 + part a l j)) ≤ 10000000; omega), ⟨?_, ?_, ⟨p.1, by show qt9 _ _ ≤ _; have := F.msum; omega⟩, ⟨Int.le_refl _, by show (0 : Int) ≤ _; omega⟩, ⟨Int.le_refl _, by show (0 : Int) ≤ _; omega⟩, ⟨Int.le_refl _, by show (0 : Int) ≤ _; omega⟩⟩⟩
    · have a1 := F.at i; have a2 := qqk ha l i
      show 0 ≤ (tab l.length (fun j => m.getD j 0 + part a l j)).getD i 0 ∧ 0 ≤ t.getD i 0 ∧ t.getD i 0 ≤ 1000 * (tab l.length (fun j => m.getD j 0 + part a l j)).getD i 0
      rw [qul hi]; omega
    · show isum (tab l.length (fun j => m.getD j 0 + part a l j)) = isum m + qt9 (part a l) l.length - 0; omega
    · show isum t = isum t + 0 - 0; omega
  · rw [if_neg g]
    refine ⟨F, ⟨?_, ?_, ⟨Int.le_refl _, by show (0 : Int) ≤ _; omega⟩, ⟨Int.le_refl _, by show (0 : Int) ≤ _; omega⟩, ⟨Int.le_refl _, by show (0 : Int) ≤ _; omega⟩, ⟨Int.le_refl _, by show (0 : Int) ≤ _; omega⟩⟩⟩
    · show isum m = isum m + 0 - 0; omega
    · show isum t = isum t + 0 - 0; omega
theorem qtm (F : StF r l m t b) {a : Int} (ha : 0 ≤ a ∧ a ≤ 10000) (j : Nat) : 0 ≤ soX a l m j ∧ soX a l m j ≤ m.getD j 0 := by
  have a1 := F.at j; have a2 := qqk ha l j
  unfold soX; omega
theorem qtn (F : StF r l m t b) {a : Int} (ha : 0 ≤ a ∧ a ≤ 10000) (j : Nat) : (0 ≤ soY a l m t j ∧ soY a l m t j ≤ t.getD j 0) ∧ t.getD j 0 - soY a l m t j ≤ 1000 * (m.getD j 0 - soX a l m j) := by
  have a1 := F.at j
  exact qqg ⟨a1.1, a1.2.1⟩ a1.2.2 (qtm F ha j)
theorem qto (F : StF r l m t b) {a : Int} (ha : 0 ≤ a ∧ a ≤ 10000) (n : Nat) : (0 ≤ qt9 (soX a l m) n ∧ qt9 (soX a l m) n ≤ qt9 (fun j => m.getD j 0) n) ∧ 0 ≤ qt9 (soY a l m t) n ∧ qt9 (soY a l m t) n ≤ qt9 (fun j => t.getD j 0) n :=
  ⟨⟨que n fun j _ => (qtm F ha j).1, quc n fun j _ => (qtm F ha j).2⟩, que n fun j _ => (qtn F ha j).1.1, quc n fun j _ => (qtn F ha j).1.2⟩
theorem qtl (F : StF r l m t b) {a : Int} (ha : 0 ≤ a ∧ a ≤ 10000) : StF r l (soS a l (m, t)).1.1 (soS a l (m, t)).1.2 b ∧ Led (m, t) (soS a l (m, t)).1 (soS a l (m, t)).2 := by
  have L := F.len; have ml := F.ml; have tl := F.tl
  have p := qto F ha l.length
  have ms := F.msum; have ts := F.tle
  have e1 : isum (tab l.length (fun j => m.getD j 0 - soX a l m j)) = isum m - qt9 (soX a l m) l.length := by rw [qlq, quf, qlp m, ml]
  have e2 : isum (tab l.length (fun j => t.getD j 0 - soY a l m t j)) = isum t - qt9 (soY a l m t) l.length := by rw [qlq, quf, qlp t, tl]
  have q1 := qlp m; have q2 := qlp t
  rw [ml] at q1; rw [tl] at q2
  refine ⟨F.mk' (qum _ _) (qum _ _) (fun i hi => ?_) (by show isum (tab l.length (fun j => m.getD j 0 - soX a l m j)) ≤ 10000000; omega), ⟨?_, ?_, ⟨Int.le_refl _, by show (0 : Int) ≤ _; omega⟩, ⟨p.1.1, by show qt9 (soX a l m) _ ≤ _; omega⟩, ⟨Int.le_refl _, by show (0 : Int) ≤ _; omega⟩, ⟨p.2.1, by show qt9 (soY a l m t) _ ≤ _; omega⟩⟩⟩
  · have a1 := F.at i; have a2 := qtm F ha i; have a3 := qtn F ha i
    show 0 ≤ (tab l.length (fun j => m.getD j 0 - soX a l m j)).getD i 0 ∧ 0 ≤ (tab l.length (fun j => t.getD j 0 - soY a l m t j)).getD i 0 ∧ (tab l.length (fun j => t.getD j 0 - soY a l m t j)).getD i 0 ≤ 1000 * (tab l.length (fun j => m.getD j 0 - soX a l m j)).getD i 0
    rw [qul hi, qul hi]; omega
  · show isum (tab l.length (fun j => m.getD j 0 - soX a l m j)) = isum m + 0 - qt9 (soX a l m) l.length; omega
  · show isum (tab l.length (fun j => t.getD j 0 - soY a l m t j)) = isum t + 0 - qt9 (soY a l m t) l.length; omega
theorem qgh (F : StF r l m t b) {a : Int} (ha : 0 ≤ a ∧ a ≤ 1000) (j : Nat) : 0 ≤ deX a t j ∧ deX a t j ≤ t.getD j 0 := by
  have a1 := F.at j
  unfold deX
  have h1 := Int.mul_nonneg a1.2.2.1 ha.1
  have h2 : t.getD j 0 * a ≤ t.getD j 0 * 1000 := Int.mul_le_mul_of_nonneg_left ha.2 a1.2.2.1
  omega
theorem qgg (F : StF r l m t b) {a : Int} (ha : 0 ≤ a ∧ a ≤ 1000) : StF r l (deS a l (m, t)).1.1 (deS a l (m, t)).1.2 b ∧ Led (m, t) (deS a l (m, t)).1 (deS a l (m, t)).2 := by
  have L := F.len; have ml := F.ml; have tl := F.tl
  have p1 := que l.length fun j _ => (qgh F ha j).1
  have p2 := quc l.length fun j _ => (qgh F ha j).2
  have ts := F.tle
  have e2 : isum (tab l.length (fun j => t.getD j 0 - deX a t j)) = isum t - qt9 (deX a t) l.length := by rw [qlq, quf, qlp t, tl]
  have q2 := qlp t
  rw [tl] at q2
  refine ⟨F.mk' ml (qum _ _) (fun i hi => ?_) F.sum, ⟨?_, ?_, ⟨Int.le_refl _, by show (0 : Int) ≤ _; omega⟩, ⟨Int.le_refl _, by show (0 : Int) ≤ _; omega⟩, ⟨Int.le_refl _, by show (0 : Int) ≤ _; omega⟩, ⟨p1, by show qt9 (deX a t) _ ≤ _; omega⟩⟩⟩
  · have a1 := F.at i; have a2 := qgh F ha i
    show 0 ≤ m.getD i 0 ∧ 0 ≤ (tab l.length (fun j => t.getD j 0 - deX a t j)).getD i 0 ∧ (tab l.length (fun j => t.getD j 0 - deX a t j)).getD i 0 ≤ 1000 * m.getD i 0
    rw [qul hi]; omega
  · show isum m = isum m + 0 - 0; omega
  · show isum (tab l.length (fun j => t.getD j 0 - deX a t j)) = isum t + 0 - qt9 (deX a t) l.length; omega
end
def tick (l : List Cell) (b : List Int) (i : Nat) (s : S2) : S2 := (tab l.length (stM (i : Int) l s.1 b), tab l.length (stT (i : Int) l s.1 s.2 b))
def qux (l : List Cell) (b : List Int) : Nat → Nat → S2 → S2
  | 0, i, s => s
  | n + 1, i, s => qux l b n (i + 1) (tick l b i s)
theorem quy {r : Int} {l : List Cell} {b : List Int} : ∀ (n i : Nat) (s : S2), StF r l s.1 s.2 b → StF r l (qux l b n i s).1 (qux l b n i s).2 b ∧ isum (qux l b n i s).1 = isum s.1 ∧ isum (qux l b n i s).2 = isum s.2
  | 0, i, s, F => ⟨F, rfl, rfl⟩
  | n + 1, i, s, F => by
    have h := quy n (i + 1) (tick l b i s) (qt4 F i)
    exact ⟨h.1, h.2.1.trans (qt5 F i), h.2.2.trans (qt6 F i)⟩
end Go.Proofs.YtoldpdhhfmlckaaGreat
end
section
namespace Go.Proofs.YtoldpdhhfmlckaaGreat
open Go.Ev
structure StV (r : Int) (s : S3) (b : List Int) (M T : Int) : Prop where
  u : StU r s b
  m : isum s.2.1 = M
  t : isum s.2.2 = T
theorem rf_V {r : Int} {s : S3} {b : List Int} {M T : Int} (V : StV r s b M T) {i : Nat} (hi : i < s.1.length) (hl : qnj s.1 i < 4) : StV r (rfS s i) b M T := by
  have ml := V.u.ml; have tl := V.u.tl
  exact ⟨rf_U V.u hi hl, by show isum (rfM s.2.1 i) = M; rw [qri (by omega) (V.u.at i).1]; exact V.m, by show isum (rfT s.2.2 s.2.1 i) = T; rw [qrk (by omega)]; exact V.t⟩
theorem cm_V {r : Int} {s : S3} {b : List Int} {M T : Int} (V : StV r s b M T) {i : Nat} (hi : i + 1 < s.1.length) (hs : sib (s.1.getD i zz3) (s.1.getD (i + 1) zz3) = true) : StV r (cmS s i) b M T := by
  have ml := V.u.ml; have tl := V.u.tl
  exact ⟨cm_U V.u hi hs, by show isum (cmM s.2.1 i) = M; rw [qf6 (by omega)]; exact V.m, by show isum (cmM s.2.2 i) = T; rw [qf6 (by omega)]; exact V.t⟩
theorem qns {r : Int} {b : List Int} {M T : Int} : ∀ (n : Nat) (s : S3), StV r s b M T → 129 ≤ n + s.1.length → StV r (lvS n s) b M T
  | 0, s, V, hn => V
  | n + 1, s, V, hn => by
    unfold lvS
    by_cases g : unb s.1 < 0
    · rw [if_pos g]; exact V
    · rw [if_neg g]
      obtain ⟨j, e, h1, h2⟩ := qu9 (by omega : 0 ≤ unb s.1)
      have c := qf8 V.u.mesh h1 h2
      rw [e, Int.toNat_natCast]
      exact qns n _ (rf_V V c.1 c.2) (by show 129 ≤ n + (qtr s.1 _).length; rw [qts c.1]; omega)
theorem qtq {r : Int} {b : List Int} {M T : Int} (w : List Int) (l0 : List Cell) (hw : ∀ j, w.getD j 0 = 1 → qnj l0 j < 4) : ∀ (n : Nat) (s : S3), StV r s b M T → n ≤ s.1.length → (∀ j, j < n → s.1.getD j zz3 = l0.getD j zz3) → StV r (spS w n s) b M T
  | 0, s, V, hn, he => V
  | n + 1, s, V, hn, he => by
    unfold spS
    by_cases g : w.getD n 0 = 1
    · rw [if_pos g]
      have hl : qnj s.1 n < 4 := by have := hw n g; unfold qnj at *; rw [he n (by omega)]; exact this
      exact qtq w l0 hw n _ (rf_V V (by omega) hl) (by show n ≤ (qtr s.1 n).length; rw [qts (by omega)]; omega) fun j hj => by
        show (qtr s.1 n).getD j zz3 = _
        rw [qtt (by omega) hj]; exact he j (by omega)
    · rw [if_neg g]
      exact qtq w l0 hw n s V (by omega) fun j hj => he j (by omega)
theorem qpv {r : Int} {b : List Int} {M T : Int} (P : Cell → Bool) : ∀ (n i : Nat) (s : S3), StV r s b M T → StV r (mgS P n i s) b M T
  | 0, i, s, V => V
  | n + 1, i, s, V => by
    unfold mgS
    by_cases g : i + 1 < s.1.length
    · rw [if_pos g]
      by_cases h : (P (s.1.getD i zz3) && (P (s.1.getD (i + 1) zz3) && mayC s.1 i)) = true
      · rw [if_pos h]
        simp only [Bool.and_eq_true, mayC] at h
        exact qpv P n (i + 1) _ (cm_V V g h.2.2.1)
      · rw [if_neg h]; exact qpv P n (i + 1) s V
    · rw [if_neg g]; exact V
def ada (hi lo : Int) (b : List Int) (s : S3) : S3 := adS (tab s.1.length (wsh s.1 s.2.1 b hi lo)) s
theorem qat {r : Int} {s : S3} {b : List Int} (F : StF r s.1 s.2.1 s.2.2 b) (hi lo : Int) : StF r (ada hi lo b s).1 (ada hi lo b s).2.1 (ada hi lo b s).2.2 b ∧ isum (ada hi lo b s).2.1 = isum s.2.1 ∧ isum (ada hi lo b s).2.2 = isum s.2.2 := by
  have V := qtq (M := isum s.2.1) (T := isum s.2.2) (tab s.1.length (wsh s.1 s.2.1 b hi lo)) s.1 qvv s.1.length s ⟨F.toU, rfl, rfl⟩ (Nat.le_refl _) (fun j hj => rfl)
  have W := qns 128 _ V (by have := V.u.len; omega)
  have X := qpv (Pw (tab s.1.length (wsh s.1 s.2.1 b hi lo)) s.1) 128 0 _ W
  exact ⟨ad_U F hi lo, X.m, X.t⟩
def flow (p : Pl) (l : List Cell) (b : List Int) (s : S2) : S2 × Ld :=
  let s1 := boS p.bi p.bs p.bo s
  let s2 := raS p.rain l s1.1
  let s3 := soS p.loss l s2.1
  let s4 := deS p.dec l s3.1
  (qux l b 16 0 s4.1, ((s1.2.add s2.2).add s3.2).add s4.2)
def mac (p : Pl) (b : List Int) (k : Int) (s : S3) : S3 × Ld :=
  let x := flow p s.1 b s.2
  (if 0 < p.every ∧ (k + 1) % p.every = 0 then ada p.high p.low b (s.1, x.1) else (s.1, x.1), x.2)
structure PlF (p : Pl) : Prop where
  bi : 0 ≤ p.bi ∧ p.bi ≤ 10000
  bs : 0 ≤ p.bs ∧ p.bs ≤ 1000
  bo : 0 ≤ p.bo ∧ p.bo ≤ 250
  rain : 0 ≤ p.rain ∧ p.rain ≤ 10000
  loss : 0 ≤ p.loss ∧ p.loss ≤ 10000
  dec : 0 ≤ p.dec ∧ p.dec ≤ 1000
  high : 0 ≤ p.high ∧ p.high ≤ 1000000
  low : 0 ≤ p.low ∧ p.low ≤ 1000000
  every : 0 ≤ p.every ∧ p.every ≤ 100
structure Led4 (s s' : S2) (l : Ld) : Prop where
  m : isum s'.1 = isum s.1 + l.mi - l.mo
  t : isum s'.2 = isum s.2 + l.ti - l.ou
  mi : 0 ≤ l.mi ∧ l.mi ≤ 40000000
  mo : 0 ≤ l.mo ∧ l.mo ≤ 40000000
  ti : 0 ≤ l.ti ∧ l.ti ≤ 40000000000
  ou : 0 ≤ l.ou ∧ l.ou ≤ 40000000000
theorem Led4.comb {s s1 s2 s3 s4 s5 : S2} {l1 l2 l3 l4 : Ld} (h1 : Led s s1 l1) (h2 : Led s1 s2 l2) (h3 : Led s2 s3 l3) (h4 : Led s3 s4 l4) (e1 : isum s5.1 = isum s4.1) (e2 : isum s5.2 = isum s4.2) : Led4 s s5 (((l1.add l2).add l3).add l4) := by
  have a1 := h1.m; have a2 := h2.m; have a3 := h3.m; have a4 := h4.m
  have b1 := h1.t; have b2 := h2.t; have b3 := h3.t; have b4 := h4.t
  have c1 := h1.mi; have c2 := h2.mi; have c3 := h3.mi; have c4 := h4.mi
  have d1 := h1.mo; have d2 := h2.mo; have d3 := h3.mo; have d4 := h4.mo
  have f1 := h1.ti; have f2 := h2.ti; have f3 := h3.ti; have f4 := h4.ti
  have g1 := h1.ou; have g2 := h2.ou; have g3 := h3.ou; have g4 := h4.ou
  refine ⟨?_, ?_, ?_, ?_, ?_, ?_⟩
  · show isum s5.1 = isum s.1 + (l1.mi + l2.mi + l3.mi + l4.mi) - (l1.mo + l2.mo + l3.mo + l4.mo); omega
  · show isum s5.2 = isum s.2 + (l1.ti + l2.ti + l3.ti + l4.ti) - (l1.ou + l2.ou + l3.ou + l4.ou); omega
  · show 0 ≤ l1.mi + l2.mi + l3.mi + l4.mi ∧ l1.mi + l2.mi + l3.mi + l4.mi ≤ 40000000; omega
  · show 0 ≤ l1.mo + l2.mo + l3.mo + l4.mo ∧ l1.mo + l2.mo + l3.mo + l4.mo ≤ 40000000; omega
  · show 0 ≤ l1.ti + l2.ti + l3.ti + l4.ti ∧ l1.ti + l2.ti + l3.ti + l4.ti ≤ 40000000000; omega
  · show 0 ≤ l1.ou + l2.ou + l3.ou + l4.ou ∧ l1.ou + l2.ou + l3.ou + l4.ou ≤ 40000000000; omega
theorem qkv {r : Int} {l : List Cell} {b : List Int} {s : S2} (F : StF r l s.1 s.2 b) {p : Pl} (P : PlF p) : StF r l (flow p l b s).1.1 (flow p l b s).1.2 b ∧ Led4 s (flow p l b s).1 (flow p l b s).2 := by
  have h1 := qa9 F P.bi P.bs P.bo
  have h2 := qqv h1.1 P.rain
  have h3 := qtl h2.1 P.loss
  have h4 := qgg h3.1 P.dec
  have h5 := quy 16 0 _ h4.1
  exact ⟨h5.1, Led4.comb h1.2 h2.2 h3.2 h4.2 h5.2.1 h5.2.2⟩
theorem qo9 {r : Int} {b : List Int} {s : S3} (F : StF r s.1 s.2.1 s.2.2 b) {p : Pl} (P : PlF p) (k : Int) : StF r (mac p b k s).1.1 (mac p b k s).1.2.1 (mac p b k s).1.2.2 b ∧ Led4 s.2 (mac p b k s).1.2 (mac p b k s).2 := by
  have h := qkv (s := s.2) F P
  unfold mac
  by_cases g : 0 < p.every ∧ (k + 1) % p.every = 0
  · simp only [if_pos g]
    have a := qat (s := (s.1, (flow p s.1 b s.2).1)) h.1 p.high p.low
    exact ⟨a.1, ⟨a.2.1.trans h.2.m, a.2.2.trans h.2.t, h.2.mi, h.2.mo, h.2.ti, h.2.ou⟩⟩
  · simp only [if_neg g]
    exact h
end Go.Proofs.YtoldpdhhfmlckaaGreat
end
section
namespace Go.Proofs.YtoldpdhhfmlckaaGreat
open Go.Ev
theorem qhd (k : Nat) (a0 : Int) (a1z : Bool) (a1 : List (Int × Int × Int)) (a2z : Bool) (a2 : List Int) (a3z : Bool) (a3 : List Int) (a4z : Bool) (a4 : List Int) (b0 : Int) (b1z : Bool) (b1 : List (Int × Int × Int)) (b2z : Bool) (b2 : List Int) (b3z : Bool) (b3 : List Int) (b4z : Bool) (b4 : List Int) : go (k + 1) impl_SameState [(.agg [(.int .i64 (a0)), (.arr false (a1z) (.r3 (a1))), (.arr false (a2z) (.ints .i64 (a2))), (.arr false (a3z) (.ints .i64 (a3))), (.arr false (a4z) (.ints .i64 (a4)))]), (.agg [(.int .i64 (b0)), (.arr false (b1z) (.r3 (b1))), (.arr false (b2z) (.ints .i64 (b2))), (.arr false (b3z) (.ints .i64 (b3))), (.arr false (b4z) (.ints .i64 (b4)))])] =
 (go k impl_SameMesh [(.agg [(.int .i64 (a0)), (.arr false (a1z) (.r3 (a1)))]), (.agg [(.int .i64 (b0)), (.arr false (b1z) (.r3 (b1)))])]).bind fun r0 =>
 cond (bit (nth r0 0))
 ((go k slices_Equal_int_int [(.arr false (a2z) (.ints .i64 (a2))), (.arr false (b2z) (.ints .i64 (b2)))]).bind fun r1 =>
 cond (bit (nth r1 0))
 ((go k slices_Equal_int_int [(.arr false (a3z) (.ints .i64 (a3))), (.arr false (b3z) (.ints .i64 (b3)))]).bind fun r2 =>
 cond (bit (nth r2 0))
 ((go k slices_Equal_int_int [(.arr false (a4z) (.ints .i64 (a4))), (.arr false (b4z) (.ints .i64 (b4)))]).bind fun r3 =>
 some [(.bool (bit (nth r3 0)))])
 (some [(.bool (false))]))
 (some [(.bool (false))]))
 (some [(.bool (false))]) := by kernel_rfl
end Go.Proofs.YtoldpdhhfmlckaaGreat
end
section
namespace Go.Proofs.YtoldpdhhfmlckaaGreat
open Go.Ev
def qs8 (r r' : Int) (l l' : List Cell) (m t b m' t' b' : List Int) : Bool := qs7 r r' l l' && (decide (m = m') && (decide (t = t') && decide (b = b')))
theorem qbv (k : Nat) (hk : 2000000 ≤ k) (a0 : Int) (a1z : Bool) (a1 : List (Int × Int × Int)) (a2z : Bool) (a2 : List Int) (a3z : Bool) (a3 : List Int) (a4z : Bool) (a4 : List Int) (b0 : Int) (b1z : Bool) (b1 : List (Int × Int × Int)) (b2z : Bool) (b2 : List Int) (b3z : Bool) (b3 : List Int) (b4z : Bool) (b4 : List Int) (h1 : (a1.length : Int) ≤ 1048576) (h2 : (a2.length : Int) ≤ 1048576) (h3 : (a3.length : Int) ≤ 1048576) (h4 : (a4.length : Int) ≤ 1048576) : go (k + 3) impl_SameState [(.agg [(.int .i64 (a0)), (.arr false (a1z) (.r3 (a1))), (.arr false (a2z) (.ints .i64 (a2))), (.arr false (a3z) (.ints .i64 (a3))), (.arr false (a4z) (.ints .i64 (a4)))]), (.agg [(.int .i64 (b0)), (.arr false (b1z) (.r3 (b1))), (.arr false (b2z) (.ints .i64 (b2))), (.arr false (b3z) (.ints .i64 (b3))), (.arr false (b4z) (.ints .i64 (b4)))])] = some [.bool (qs8 a0 b0 a1 b1 a2 a3 a4 b2 b3 b4)] := by
  rw [qhd]
  simp (disch := omega) only [qbu, bit, qdf, qa6, nth0, qu1, qge]
  rfl
end Go.Proofs.YtoldpdhhfmlckaaGreat
end
section
namespace Go.Proofs.YtoldpdhhfmlckaaGreat
open Go.Ev
theorem qhx (k : Nat) (a0 : Int) (a1z : Bool) (a1 : List (Int × Int × Int)) (a2z : Bool) (a2 : List Int) (a3z : Bool) (a3 : List Int) (a4z : Bool) (a4 : List Int) (b c d0 d1 d2 d3 : Int) : go (k + 1) impl_State_remove [(.ptr true [(.int .i64 (a0)), (.arr true (a1z) (.r3 (a1))), (.arr true (a2z) (.ints .i64 (a2))), (.arr true (a3z) (.ints .i64 (a3))), (.arr true (a4z) (.ints .i64 (a4)))]), (.int .i64 (b)), (.int .i64 (c)), (.ptr true [(.int .i64 (d0)), (.int .i64 (d1)), (.int .i64 (d2)), (.int .i64 (d3))])] =
 cond (decide ((0 : Int) ≤ b) && decide (b < nI (List.length a3)))
 (cond (decide ((0 : Int) ≤ b) && decide (b < nI (List.length a2)))
 ((go k impl_ShareOut [(.int .i64 (List.getD a3 (Int.toNat b) (0 : Int))), (.int .i64 (c)), (.int .i64 (List.getD a2 (Int.toNat b) (0 : Int)))]).bind fun r0 =>
 cond (decide ((0 : Int) ≤ b) && decide (b < nI (List.length a2)))
 (cond (decide ((0 : Int) ≤ b) && decide (b < nI (List.length a2)))
 (cond (decide ((0 : Int) ≤ b) && decide (b < nI (List.length a3)))
 (cond (decide ((0 : Int) ≤ b) && decide (b < nI (List.length a3)))
 (some [(.ptr true [(.int .i64 (a0)), (.arr true (a1z) (.r3 (a1))), (.arr true (a2z) (.ints .i64 (List.set a2 (Int.toNat b) (IntKind.wrap .i64 (List.getD a2 (Int.toNat b) (0 : Int) - c))))), (.arr true (a3z) (.ints .i64 (List.set a3 (Int.toNat b) (IntKind.wrap .i64 (List.getD a3 (Int.toNat b) (0 : Int) - D.toInt (nth r0 0)))))), (.arr true (a4z) (.ints .i64 (a4)))]), (.ptr true [(.int .i64 (d0)), (.int .i64 (IntKind.wrap .i64 (d1 + c))), (.int .i64 (d2)), (.int .i64 (IntKind.wrap .i64 (d3 + D.toInt (nth r0 0))))])])
 (none))
 (none))
 (none))
 (none))
 (none))
 (none) := by kernel_rfl
theorem qhk (k : Nat) (a0 : Int) (a1z : Bool) (a1 : List (Int × Int × Int)) (a2z : Bool) (a2 : List Int) (a3z : Bool) (a3 : List Int) (a4z : Bool) (a4 : List Int) (b0 b1 b2 : Int) : go (k + 1) impl_State_border [(.ptr true [(.int .i64 (a0)), (.arr true (a1z) (.r3 (a1))), (.arr true (a2z) (.ints .i64 (a2))), (.arr true (a3z) (.ints .i64 (a3))), (.arr true (a4z) (.ints .i64 (a4)))]), (.agg [(.int .i64 (b0)), (.int .i64 (b1)), (.int .i64 (b2))])] =
 cond (decide ((0 : Int) ≤ IntKind.wrap .i64 (nI (List.length a2) - (1 : Int))) && decide (IntKind.wrap .i64 (nI (List.length a2) - (1 : Int)) < nI (List.length a2)))
 ((go k impl_State_remove [(.ptr true [(.int .i64 (a0)), (.arr true (a1z) (.r3 (a1))), (.arr true (a2z) (.ints .i64 (a2))), (.arr true (a3z) (.ints .i64 (a3))), (.arr true (a4z) (.ints .i64 (a4)))]), (.int .i64 (IntKind.wrap .i64 (nI (List.length a2) - (1 : Int)))), (.int .i64 (IntKind.wrap .i64 (Int.tdiv (IntKind.wrap .i64 (List.getD a2 (Int.toNat (IntKind.wrap .i64 (nI (List.length a2) - (1 : Int)))) (0 : Int) * b2)) (1000 : Int)))), (.ptr true [(.int .i64 (0 : Int)), (.int .i64 (0 : Int)), (.int .i64 (0 : Int)), (.int .i64 (0 : Int))])]).bind fun r0 =>
 (go k impl_sum [(.arr false (D.nil (D.cell 2 (nth r0 0))) (.ints .i64 (D.ints (D.cell 2 (nth r0 0)))))]).bind fun r1 =>
 cond (decide (IntKind.wrap .i64 (D.toInt (nth r1 0) + b0) ≤ (10000000 : Int)))
 (cond (decide ((0 : Int) ≤ (0 : Int)) && decide ((0 : Int) < nI (List.length (D.ints (D.cell 2 (nth r0 0))))))
 (cond (decide ((0 : Int) ≤ (0 : Int)) && decide ((0 : Int) < nI (List.length (D.ints (D.cell 2 (nth r0 0))))))
 (cond (decide ((0 : Int) ≤ (0 : Int)) && decide ((0 : Int) < nI (List.length (D.ints (D.cell 3 (nth r0 0))))))
 (cond (decide ((0 : Int) ≤ (0 : Int)) && decide ((0 : Int) < nI (List.length (D.ints (D.cell 3 (nth r0 0))))))
 (some [(.agg [(.int .i64 (b0)), (.int .i64 (D.toInt (D.cell 1 (nth r0 1)))), (.int .i64 (IntKind.wrap .i64 (b0 * b1))), (.int .i64 (D.toInt (D.cell 3 (nth r0 1))))]), (.ptr true [(.int .i64 (D.toInt (D.cell 0 (nth r0 0)))), (.arr true (D.nil (D.cell 1 (nth r0 0))) (.r3 (D.r3 (D.cell 1 (nth r0 0))))), (.arr true (D.nil (D.cell 2 (nth r0 0))) (.ints .i64 (List.set (D.ints (D.cell 2 (nth r0 0))) (Int.toNat (0 : Int)) (IntKind.wrap .i64 (List.getD (D.ints (D.cell 2 (nth r0 0))) (Int.toNat (0 : Int)) (0 : Int) + b0))))), (.arr true (D.nil (D.cell 3 (nth r0 0))) (.ints .i64 (List.set (D.ints (D.cell 3 (nth r0 0))) (Int.toNat (0 : Int)) (IntKind.wrap .i64 (List.getD (D.ints (D.cell 3 (nth r0 0))) (Int.toNat (0 : Int)) (0 : Int) + IntKind.wrap .i64 (b0 * b1)))))), (.arr true (D.nil (D.cell 4 (nth r0 0))) (.ints .i64 (D.ints (D.cell 4 (nth r0 0)))))])])
 (none))
 (none))
 (none))
 (none))
 (some [(.agg [(.int .i64 (D.toInt (D.cell 0 (nth r0 1)))), (.int .i64 (D.toInt (D.cell 1 (nth r0 1)))), (.int .i64 (D.toInt (D.cell 2 (nth r0 1)))), (.int .i64 (D.toInt (D.cell 3 (nth r0 1))))]), (.ptr true [(.int .i64 (D.toInt (D.cell 0 (nth r0 0)))), (.arr true (D.nil (D.cell 1 (nth r0 0))) (.r3 (D.r3 (D.cell 1 (nth r0 0))))), (.arr true (D.nil (D.cell 2 (nth r0 0))) (.ints .i64 (D.ints (D.cell 2 (nth r0 0))))), (.arr true (D.nil (D.cell 3 (nth r0 0))) (.ints .i64 (D.ints (D.cell 3 (nth r0 0))))), (.arr true (D.nil (D.cell 4 (nth r0 0))) (.ints .i64 (D.ints (D.cell 4 (nth r0 0)))))])]))
 (none) := by kernel_rfl
theorem qhu (k : Nat) (a0 : Int) (a1z : Bool) (a1 : List (Int × Int × Int)) (a2z : Bool) (a2 : List Int) (a3z : Bool) (a3 : List Int) (a4z : Bool) (a4 : List Int) (b c : Int) : go (k + 1) impl_State_partOf [(.agg [(.int .i64 (a0)), (.arr false (a1z) (.r3 (a1))), (.arr false (a2z) (.ints .i64 (a2))), (.arr false (a3z) (.ints .i64 (a3))), (.arr false (a4z) (.ints .i64 (a4)))]), (.int .i64 (b)), (.int .i64 (c))] =
 cond (decide ((0 : Int) ≤ c) && decide (c < nI (List.length a1)))
 ((go k impl_WidthOf [(.int .i64 (Prod.fst (Prod.snd (List.getD a1 (Int.toNat c) zz3))))]).bind fun r0 =>
 some [(.int .i64 (IntKind.wrap .i64 (Int.tdiv (IntKind.wrap .i64 (b * D.toInt (nth r0 0))) (16 : Int))))])
 (none) := by kernel_rfl
def qr6 (x0 x1 x2 x3 : Int) (z4 : Bool) (l5 : List (Int × Int × Int)) (z6 : Bool) (l7 : List Int) (z8 : Bool) (l9 : List Int) (z10 : Bool) (l11 : List Int) (x12 x13 x14 x15 x16 : Int) : St := ⟨fill 60 [(0, (.ptr 4 (0) (0))), (1, (.int .i64 (x0))), (4, (.ptr 5 (0) (0))), (5, (.int .i64 (x1))), (38, (.int .i64 (x2))), (39, (.int .i64 (x3)))], [(.ptr 4 (0) (0))], [(.arr true (z4) (.r3 (l5))), (.arr true (z6) (.ints .i64 (l7))), (.arr true (z8) (.ints .i64 (l9))), (.arr true (z10) (.ints .i64 (l11))), (.box true [(.int .i64 (x12)), (.sl 0 none), (.sl 1 none), (.sl 2 none), (.sl 3 none)]), (.box true [(.int .i64 (x13)), (.int .i64 (x14)), (.int .i64 (x15)), (.int .i64 (x16))])]⟩
def qr7 (x0 x1 x2 x3 : Int) (z4 : Bool) (l5 : List (Int × Int × Int)) (z6 : Bool) (l7 : List Int) (z8 : Bool) (l9 : List Int) (z10 : Bool) (l11 : List Int) (x12 x13 x14 x15 x16 : Int) : St := ⟨fill 60 [(0, (.ptr 4 (0) (0))), (1, (.int .i64 (x0))), (4, (.ptr 5 (0) (0))), (5, (.int .i64 (x1))), (12, (.int .i64 (x2))), (13, (.int .i64 (x3)))], [(.ptr 4 (0) (0))], [(.arr true (z4) (.r3 (l5))), (.arr true (z6) (.ints .i64 (l7))), (.arr true (z8) (.ints .i64 (l9))), (.arr true (z10) (.ints .i64 (l11))), (.box true [(.int .i64 (x12)), (.sl 0 none), (.sl 1 none), (.sl 2 none), (.sl 3 none)]), (.box true [(.int .i64 (x13)), (.int .i64 (x14)), (.int .i64 (x15)), (.int .i64 (x16))])]⟩
theorem qhv (k : Nat) (a0 : Int) (a1z : Bool) (a1 : List (Int × Int × Int)) (a2z : Bool) (a2 : List Int) (a3z : Bool) (a3 : List Int) (a4z : Bool) (a4 : List Int) (b : Int) : go (k + 1) impl_State_rain [(.ptr true [(.int .i64 (a0)), (.arr true (a1z) (.r3 (a1))), (.arr true (a2z) (.ints .i64 (a2))), (.arr true (a3z) (.ints .i64 (a3))), (.arr true (a4z) (.ints .i64 (a4)))]), (.int .i64 (b))] =
 lp k impl_State_rain [(.ptr true [(.int .i64 (a0)), (.arr true (a1z) (.r3 (a1))), (.arr true (a2z) (.ints .i64 (a2))), (.arr true (a3z) (.ints .i64 (a3))), (.arr true (a4z) (.ints .i64 (a4)))])] [] 3 k (qr7 b (0 : Int) (nI (List.length a2)) (0 : Int) a1z a1 a2z a2 a3z a3 a4z a4 a0 (0 : Int) (0 : Int) (0 : Int) (0 : Int)) := by kernel_rfl
theorem qmc (k n : Nat) (fu : List (Nat × Nat)) (a0 : Int) (a1z : Bool) (a1 : List (Int × Int × Int)) (a2z : Bool) (a2 : List Int) (a3z : Bool) (a3 : List Int) (a4z : Bool) (a4 : List Int) (x0 x1 x2 x3 : Int) (z4 : Bool) (l5 : List (Int × Int × Int)) (z6 : Bool) (l7 : List Int) (z8 : Bool) (l9 : List Int) (z10 : Bool) (l11 : List Int) (x12 x13 x14 x15 x16 : Int) : lp k impl_State_rain [(.ptr true [(.int .i64 (a0)), (.arr true (a1z) (.r3 (a1))), (.arr true (a2z) (.ints .i64 (a2))), (.arr true (a3z) (.ints .i64 (a3))), (.arr true (a4z) (.ints .i64 (a4)))])] fu 10 (n + 1) (qr6 x0 x1 x2 x3 z4 l5 z6 l7 z8 l9 z10 l11 x12 x13 x14 x15 x16) =
 cond (decide (x3 < x2))
 (cond (decide ((0 : Int) ≤ x3) && decide (x3 < nI (List.length l7)))
 ((go k impl_State_partOf [(.agg [(.int .i64 (x12)), (.arr false (z4) (.r3 (l5))), (.arr false (z6) (.ints .i64 (l7))), (.arr false (z8) (.ints .i64 (l9))), (.arr false (z10) (.ints .i64 (l11)))]), (.int .i64 (x0)), (.int .i64 (x3))]).bind fun r0 =>
 cond (decide ((0 : Int) ≤ x3) && decide (x3 < nI (List.length l7)))
 (lp k impl_State_rain [(.ptr true [(.int .i64 (a0)), (.arr true (a1z) (.r3 (a1))), (.arr true (a2z) (.ints .i64 (a2))), (.arr true (a3z) (.ints .i64 (a3))), (.arr true (a4z) (.ints .i64 (a4)))])] fu 10 n (qr6 x0 x1 x2 (IntKind.wrap .i64 (x3 + (1 : Int))) z4 l5 z6 (List.set l7 (Int.toNat x3) (IntKind.wrap .i64 (List.getD l7 (Int.toNat x3) (0 : Int) + D.toInt (nth r0 0)))) z8 l9 z10 l11 x12 x13 x14 x15 x16))
 (none))
 (none))
 (some [(.agg [(.int .i64 (x1)), (.int .i64 (0 : Int)), (.int .i64 (0 : Int)), (.int .i64 (0 : Int))]), (.ptr true [(.int .i64 (x12)), (.arr true (z4) (.r3 (l5))), (.arr true (z6) (.ints .i64 (l7))), (.arr true (z8) (.ints .i64 (l9))), (.arr true (z10) (.ints .i64 (l11)))])]) := by kernel_rfl
theorem qmd (k n : Nat) (fu : List (Nat × Nat)) (a0 : Int) (a1z : Bool) (a1 : List (Int × Int × Int)) (a2z : Bool) (a2 : List Int) (a3z : Bool) (a3 : List Int) (a4z : Bool) (a4 : List Int) (x0 x1 x2 x3 : Int) (z4 : Bool) (l5 : List (Int × Int × Int)) (z6 : Bool) (l7 : List Int) (z8 : Bool) (l9 : List Int) (z10 : Bool) (l11 : List Int) (x12 x13 x14 x15 x16 : Int) : lp k impl_State_rain [(.ptr true [(.int .i64 (a0)), (.arr true (a1z) (.r3 (a1))), (.arr true (a2z) (.ints .i64 (a2))), (.arr true (a3z) (.ints .i64 (a3))), (.arr true (a4z) (.ints .i64 (a4)))])] fu 3 (n + 1) (qr7 x0 x1 x2 x3 z4 l5 z6 l7 z8 l9 z10 l11 x12 x13 x14 x15 x16) =
 cond (decide (x3 < x2))
 ((go k impl_State_partOf [(.agg [(.int .i64 (x12)), (.arr false (z4) (.r3 (l5))), (.arr false (z6) (.ints .i64 (l7))), (.arr false (z8) (.ints .i64 (l9))), (.arr false (z10) (.ints .i64 (l11)))]), (.int .i64 (x0)), (.int .i64 (x3))]).bind fun r0 =>
 lp k impl_State_rain [(.ptr true [(.int .i64 (a0)), (.arr true (a1z) (.r3 (a1))), (.arr true (a2z) (.ints .i64 (a2))), (.arr true (a3z) (.ints .i64 (a3))), (.arr true (a4z) (.ints .i64 (a4)))])] fu 3 n (qr7 x0 (IntKind.wrap .i64 (x1 + D.toInt (nth r0 0))) x2 (IntKind.wrap .i64 (x3 + (1 : Int))) z4 l5 z6 l7 z8 l9 z10 l11 x12 x13 x14 x15 x16))
 ((go k impl_sum [(.arr false (z6) (.ints .i64 (l7)))]).bind fun r1 =>
 cond (decide ((10000000 : Int) < IntKind.wrap .i64 (D.toInt (nth r1 0) + x1)))
 (some [(.agg [(.int .i64 (0 : Int)), (.int .i64 (0 : Int)), (.int .i64 (0 : Int)), (.int .i64 (0 : Int))]), (.ptr true [(.int .i64 (x12)), (.arr true (z4) (.r3 (l5))), (.arr true (z6) (.ints .i64 (l7))), (.arr true (z8) (.ints .i64 (l9))), (.arr true (z10) (.ints .i64 (l11)))])])
 (lp k impl_State_rain [(.ptr true [(.int .i64 (a0)), (.arr true (a1z) (.r3 (a1))), (.arr true (a2z) (.ints .i64 (a2))), (.arr true (a3z) (.ints .i64 (a3))), (.arr true (a4z) (.ints .i64 (a4)))])] fu 10 k (qr6 x0 x1 (nI (List.length l7)) (0 : Int) z4 l5 z6 l7 z8 l9 z10 l11 x12 x13 x14 x15 x16))) := by kernel_rfl
def qr8 (x0 x1 x2 : Int) (z3 : Bool) (l4 : List (Int × Int × Int)) (z5 : Bool) (l6 : List Int) (z7 : Bool) (l8 : List Int) (z9 : Bool) (l10 : List Int) (x11 x12 x13 x14 x15 x16 x17 x18 x19 : Int) : St := ⟨fill 32 [(0, (.ptr 4 (0) (0))), (1, (.int .i64 (x0))), (4, (.ptr 5 (0) (0))), (5, (.ptr 6 (0) (0))), (12, (.sl 1 none)), (13, (.int .i64 (x1))), (14, (.int .i64 (x2)))], [(.ptr 4 (0) (0))], [(.arr true (z3) (.r3 (l4))), (.arr true (z5) (.ints .i64 (l6))), (.arr true (z7) (.ints .i64 (l8))), (.arr true (z9) (.ints .i64 (l10))), (.box true [(.int .i64 (x11)), (.sl 0 none), (.sl 1 none), (.sl 2 none), (.sl 3 none)]), (.box true [(.int .i64 (x12)), (.int .i64 (x13)), (.int .i64 (x14)), (.int .i64 (x15))]), (.box true [(.int .i64 (x16)), (.int .i64 (x17)), (.int .i64 (x18)), (.int .i64 (x19))])]⟩
theorem qh0 (k : Nat) (a0 : Int) (a1z : Bool) (a1 : List (Int × Int × Int)) (a2z : Bool) (a2 : List Int) (a3z : Bool) (a3 : List Int) (a4z : Bool) (a4 : List Int) (b : Int) : go (k + 1) impl_State_soak [(.ptr true [(.int .i64 (a0)), (.arr true (a1z) (.r3 (a1))), (.arr true (a2z) (.ints .i64 (a2))), (.arr true (a3z) (.ints .i64 (a3))), (.arr true (a4z) (.ints .i64 (a4)))]), (.int .i64 (b))] =
 lp k impl_State_soak [(.ptr true [(.int .i64 (a0)), (.arr true (a1z) (.r3 (a1))), (.arr true (a2z) (.ints .i64 (a2))), (.arr true (a3z) (.ints .i64 (a3))), (.arr true (a4z) (.ints .i64 (a4)))])] [] 3 k (qr8 b (nI (List.length a2)) (0 : Int) a1z a1 a2z a2 a3z a3 a4z a4 a0 (0 : Int) (0 : Int) (0 : Int) (0 : Int) (0 : Int) (0 : Int) (0 : Int) (0 : Int)) := by kernel_rfl
theorem qme (k n : Nat) (fu : List (Nat × Nat)) (a0 : Int) (a1z : Bool) (a1 : List (Int × Int × Int)) (a2z : Bool) (a2 : List Int) (a3z : Bool) (a3 : List Int) (a4z : Bool) (a4 : List Int) (x0 x1 x2 : Int) (z3 : Bool) (l4 : List (Int × Int × Int)) (z5 : Bool) (l6 : List Int) (z7 : Bool) (l8 : List Int) (z9 : Bool) (l10 : List Int) (x11 x12 x13 x14 x15 x16 x17 x18 x19 : Int) : lp k impl_State_soak [(.ptr true [(.int .i64 (a0)), (.arr true (a1z) (.r3 (a1))), (.arr true (a2z) (.ints .i64 (a2))), (.arr true (a3z) (.ints .i64 (a3))), (.arr true (a4z) (.ints .i64 (a4)))])] fu 3 (n + 1) (qr8 x0 x1 x2 z3 l4 z5 l6 z7 l8 z9 l10 x11 x12 x13 x14 x15 x16 x17 x18 x19) =
 cond (decide (x2 < x1))
 (cond (decide ((0 : Int) ≤ x2) && decide (x2 < nI (List.length l6)))
 ((go k impl_State_partOf [(.agg [(.int .i64 (x11)), (.arr false (z3) (.r3 (l4))), (.arr false (z5) (.ints .i64 (l6))), (.arr false (z7) (.ints .i64 (l8))), (.arr false (z9) (.ints .i64 (l10)))]), (.int .i64 (x0)), (.int .i64 (x2))]).bind fun r0 =>
 cond (decide ((0 : Int) ≤ x2) && decide (x2 < nI (List.length l8)))
 (cond (decide ((0 : Int) ≤ x2) && decide (x2 < nI (List.length l6)))
 ((go k impl_ShareOut [(.int .i64 (List.getD l8 (Int.toNat x2) (0 : Int))), (.int .i64 (if D.toInt (nth r0 0) < List.getD l6 (Int.toNat x2) (0 : Int) then D.toInt (nth r0 0) else List.getD l6 (Int.toNat x2) (0 : Int))), (.int .i64 (List.getD l6 (Int.toNat x2) (0 : Int)))]).bind fun r1 =>
 cond (decide ((0 : Int) ≤ x2) && decide (x2 < nI (List.length l6)))
 (cond (decide ((0 : Int) ≤ x2) && decide (x2 < nI (List.length l6)))
 (cond (decide ((0 : Int) ≤ x2) && decide (x2 < nI (List.length l8)))
 (cond (decide ((0 : Int) ≤ x2) && decide (x2 < nI (List.length l8)))
 (lp k impl_State_soak [(.ptr true [(.int .i64 (a0)), (.arr true (a1z) (.r3 (a1))), (.arr true (a2z) (.ints .i64 (a2))), (.arr true (a3z) (.ints .i64 (a3))), (.arr true (a4z) (.ints .i64 (a4)))])] fu 3 n (qr8 x0 x1 (IntKind.wrap .i64 (x2 + (1 : Int))) z3 l4 z5 (List.set l6 (Int.toNat x2) (IntKind.wrap .i64 (List.getD l6 (Int.toNat x2) (0 : Int) - if D.toInt (nth r0 0) < List.getD l6 (Int.toNat x2) (0 : Int) then D.toInt (nth r0 0) else List.getD l6 (Int.toNat x2) (0 : Int)))) z7 (List.set l8 (Int.toNat x2) (IntKind.wrap .i64 (List.getD l8 (Int.toNat x2) (0 : Int) - D.toInt (nth r1 0)))) z9 l10 x11 x12 x13 x14 x15 x16 (IntKind.wrap .i64 (x17 + if D.toInt (nth r0 0) < List.getD l6 (Int.toNat x2) (0 : Int) then D.toInt (nth r0 0) else List.getD l6 (Int.toNat x2) (0 : Int))) x18 (IntKind.wrap .i64 (x19 + D.toInt (nth r1 0)))))
 (none))
 (none))
 (none))
 (none))
 (none))
 (none))
 (none))
 (some [(.agg [(.int .i64 (x16)), (.int .i64 (x17)), (.int .i64 (x18)), (.int .i64 (x19))]), (.ptr true [(.int .i64 (x11)), (.arr true (z3) (.r3 (l4))), (.arr true (z5) (.ints .i64 (l6))), (.arr true (z7) (.ints .i64 (l8))), (.arr true (z9) (.ints .i64 (l10)))])]) := by kernel_rfl
def qrz (x0 x1 x2 : Int) (z3 : Bool) (l4 : List (Int × Int × Int)) (z5 : Bool) (l6 : List Int) (z7 : Bool) (l8 : List Int) (z9 : Bool) (l10 : List Int) (x11 x12 x13 x14 x15 x16 x17 x18 x19 : Int) : St := ⟨fill 41 [(0, (.ptr 4 (0) (0))), (1, (.int .i64 (x0))), (4, (.ptr 5 (0) (0))), (5, (.ptr 6 (0) (0))), (13, (.sl 2 none)), (14, (.int .i64 (x1))), (15, (.int .i64 (x2)))], [(.ptr 4 (0) (0))], [(.arr true (z3) (.r3 (l4))), (.arr true (z5) (.ints .i64 (l6))), (.arr true (z7) (.ints .i64 (l8))), (.arr true (z9) (.ints .i64 (l10))), (.box true [(.int .i64 (x11)), (.sl 0 none), (.sl 1 none), (.sl 2 none), (.sl 3 none)]), (.box true [(.int .i64 (x12)), (.int .i64 (x13)), (.int .i64 (x14)), (.int .i64 (x15))]), (.box true [(.int .i64 (x16)), (.int .i64 (x17)), (.int .i64 (x18)), (.int .i64 (x19))])]⟩
theorem qhm (k : Nat) (a0 : Int) (a1z : Bool) (a1 : List (Int × Int × Int)) (a2z : Bool) (a2 : List Int) (a3z : Bool) (a3 : List Int) (a4z : Bool) (a4 : List Int) (b : Int) : go (k + 1) impl_State_decay [(.ptr true [(.int .i64 (a0)), (.arr true (a1z) (.r3 (a1))), (.arr true (a2z) (.ints .i64 (a2))), (.arr true (a3z) (.ints .i64 (a3))), (.arr true (a4z) (.ints .i64 (a4)))]), (.int .i64 (b))] =
 lp k impl_State_decay [(.ptr true [(.int .i64 (a0)), (.arr true (a1z) (.r3 (a1))), (.arr true (a2z) (.ints .i64 (a2))), (.arr true (a3z) (.ints .i64 (a3))), (.arr true (a4z) (.ints .i64 (a4)))])] [] 3 k (qrz b (nI (List.length a3)) (0 : Int) a1z a1 a2z a2 a3z a3 a4z a4 a0 (0 : Int) (0 : Int) (0 : Int) (0 : Int) (0 : Int) (0 : Int) (0 : Int) (0 : Int)) := by kernel_rfl
theorem ql5 (k n : Nat) (fu : List (Nat × Nat)) (a0 : Int) (a1z : Bool) (a1 : List (Int × Int × Int)) (a2z : Bool) (a2 : List Int) (a3z : Bool) (a3 : List Int) (a4z : Bool) (a4 : List Int) (x0 x1 x2 : Int) (z3 : Bool) (l4 : List (Int × Int × Int)) (z5 : Bool) (l6 : List Int) (z7 : Bool) (l8 : List Int) (z9 : Bool) (l10 : List Int) (x11 x12 x13 x14 x15 x16 x17 x18 x19 : Int) : lp k impl_State_decay [(.ptr true [(.int .i64 (a0)), (.arr true (a1z) (.r3 (a1))), (.arr true (a2z) (.ints .i64 (a2))), (.arr true (a3z) (.ints .i64 (a3))), (.arr true (a4z) (.ints .i64 (a4)))])] fu 3 (n + 1) (qrz x0 x1 x2 z3 l4 z5 l6 z7 l8 z9 l10 x11 x12 x13 x14 x15 x16 x17 x18 x19) =
 cond (decide (x2 < x1))
 (cond (decide ((0 : Int) ≤ x2) && decide (x2 < nI (List.length l8)))
 (cond (decide ((0 : Int) ≤ x2) && decide (x2 < nI (List.length l8)))
 (cond (decide ((0 : Int) ≤ x2) && decide (x2 < nI (List.length l8)))
 (lp k impl_State_decay [(.ptr true [(.int .i64 (a0)), (.arr true (a1z) (.r3 (a1))), (.arr true (a2z) (.ints .i64 (a2))), (.arr true (a3z) (.ints .i64 (a3))), (.arr true (a4z) (.ints .i64 (a4)))])] fu 3 n (qrz x0 x1 (IntKind.wrap .i64 (x2 + (1 : Int))) z3 l4 z5 l6 z7 (List.set l8 (Int.toNat x2) (IntKind.wrap .i64 (List.getD l8 (Int.toNat x2) (0 : Int) - IntKind.wrap .i64 (Int.tdiv (IntKind.wrap .i64 (List.getD l8 (Int.toNat x2) (0 : Int) * x0)) (1000 : Int))))) z9 l10 x11 x12 x13 x14 x15 x16 x17 x18 (IntKind.wrap .i64 (x19 + IntKind.wrap .i64 (Int.tdiv (IntKind.wrap .i64 (List.getD l8 (Int.toNat x2) (0 : Int) * x0)) (1000 : Int))))))
 (none))
 (none))
 (none))
 (some [(.agg [(.int .i64 (x16)), (.int .i64 (x17)), (.int .i64 (x18)), (.int .i64 (x19))]), (.ptr true [(.int .i64 (x11)), (.arr true (z3) (.r3 (l4))), (.arr true (z5) (.ints .i64 (l6))), (.arr true (z7) (.ints .i64 (l8))), (.arr true (z9) (.ints .i64 (l10)))])]) := by kernel_rfl
def qr2 (x0 : Int) (z1 : Bool) (l2 : List (Int × Int × Int)) (z3 : Bool) (l4 : List Int) (z5 : Bool) (l6 : List Int) (z7 : Bool) (l8 : List Int) (x9 : Int) : St := ⟨fill 15 [(0, (.ptr 4 (0) (0))), (3, (.int .i64 (x0)))], [(.ptr 4 (0) (0))], [(.arr true (z1) (.r3 (l2))), (.arr true (z3) (.ints .i64 (l4))), (.arr true (z5) (.ints .i64 (l6))), (.arr true (z7) (.ints .i64 (l8))), (.box true [(.int .i64 (x9)), (.sl 0 none), (.sl 1 none), (.sl 2 none), (.sl 3 none)])]⟩
theorem qhr (k : Nat) (a0 : Int) (a1z : Bool) (a1 : List (Int × Int × Int)) (a2z : Bool) (a2 : List Int) (a3z : Bool) (a3 : List Int) (a4z : Bool) (a4 : List Int) : go (k + 1) impl_State_macro [(.ptr true [(.int .i64 (a0)), (.arr true (a1z) (.r3 (a1))), (.arr true (a2z) (.ints .i64 (a2))), (.arr true (a3z) (.ints .i64 (a3))), (.arr true (a4z) (.ints .i64 (a4)))])] =
 lp k impl_State_macro [(.ptr true [(.int .i64 (a0)), (.arr true (a1z) (.r3 (a1))), (.arr true (a2z) (.ints .i64 (a2))), (.arr true (a3z) (.ints .i64 (a3))), (.arr true (a4z) (.ints .i64 (a4)))])] [] 1 k (qr2 (0 : Int) a1z a1 a2z a2 a3z a3 a4z a4 a0) := by kernel_rfl
theorem ql8 (k n : Nat) (fu : List (Nat × Nat)) (a0 : Int) (a1z : Bool) (a1 : List (Int × Int × Int)) (a2z : Bool) (a2 : List Int) (a3z : Bool) (a3 : List Int) (a4z : Bool) (a4 : List Int) (x0 : Int) (z1 : Bool) (l2 : List (Int × Int × Int)) (z3 : Bool) (l4 : List Int) (z5 : Bool) (l6 : List Int) (z7 : Bool) (l8 : List Int) (x9 : Int) : lp k impl_State_macro [(.ptr true [(.int .i64 (a0)), (.arr true (a1z) (.r3 (a1))), (.arr true (a2z) (.ints .i64 (a2))), (.arr true (a3z) (.ints .i64 (a3))), (.arr true (a4z) (.ints .i64 (a4)))])] fu 1 (n + 1) (qr2 x0 z1 l2 z3 l4 z5 l6 z7 l8 x9) =
 cond (decide (x0 < (16 : Int)))
 ((go k impl_Mesh_active [(.agg [(.int .i64 (x9)), (.arr false (z1) (.r3 (l2)))]), (.int .i64 (x0))]).bind fun r0 =>
 (go k impl_State_move [(.ptr true [(.int .i64 (x9)), (.arr true (z1) (.r3 (l2))), (.arr true (z3) (.ints .i64 (l4))), (.arr true (z5) (.ints .i64 (l6))), (.arr true (z7) (.ints .i64 (l8)))]), (.arr false (D.nil (nth r0 0)) (.ints .i64 (D.ints (nth r0 0))))]).bind fun r1 =>
 lp k impl_State_macro [(.ptr true [(.int .i64 (a0)), (.arr true (a1z) (.r3 (a1))), (.arr true (a2z) (.ints .i64 (a2))), (.arr true (a3z) (.ints .i64 (a3))), (.arr true (a4z) (.ints .i64 (a4)))])] fu 1 n (qr2 (IntKind.wrap .i64 (x0 + (1 : Int))) (D.nil (D.cell 1 (nth r1 0))) (D.r3 (D.cell 1 (nth r1 0))) (D.nil (D.cell 2 (nth r1 0))) (D.ints (D.cell 2 (nth r1 0))) (D.nil (D.cell 3 (nth r1 0))) (D.ints (D.cell 3 (nth r1 0))) (D.nil (D.cell 4 (nth r1 0))) (D.ints (D.cell 4 (nth r1 0))) (D.toInt (D.cell 0 (nth r1 0)))))
 (some [(.ptr true [(.int .i64 (x9)), (.arr true (z1) (.r3 (l2))), (.arr true (z3) (.ints .i64 (l4))), (.arr true (z5) (.ints .i64 (l6))), (.arr true (z7) (.ints .i64 (l8)))])]) := by kernel_rfl
theorem qhy (k : Nat) (a0 : Int) (a1z : Bool) (a1 : List (Int × Int × Int)) (a2z : Bool) (a2 : List Int) (a3z : Bool) (a3 : List Int) (a4z : Bool) (a4 : List Int) (b0 b1 b2 b3 b4 b5 b6 b7 b8 c : Int) : go (k + 1) impl_State_runMacro [(.ptr true [(.int .i64 (a0)), (.arr true (a1z) (.r3 (a1))), (.arr true (a2z) (.ints .i64 (a2))), (.arr true (a3z) (.ints .i64 (a3))), (.arr true (a4z) (.ints .i64 (a4)))]), (.agg [(.int .i64 (b0)), (.int .i64 (b1)), (.int .i64 (b2)), (.int .i64 (b3)), (.int .i64 (b4)), (.int .i64 (b5)), (.int .i64 (b6)), (.int .i64 (b7)), (.int .i64 (b8))]), (.int .i64 (c))] =
 (go k impl_State_border [(.ptr true [(.int .i64 (a0)), (.arr true (a1z) (.r3 (a1))), (.arr true (a2z) (.ints .i64 (a2))), (.arr true (a3z) (.ints .i64 (a3))), (.arr true (a4z) (.ints .i64 (a4)))]), (.agg [(.int .i64 (b0)), (.int .i64 (b1)), (.int .i64 (b2))])]).bind fun r0 =>
 (go k impl_State_rain [(.ptr true [(.int .i64 (D.toInt (D.cell 0 (nth r0 1)))), (.arr true (D.nil (D.cell 1 (nth r0 1))) (.r3 (D.r3 (D.cell 1 (nth r0 1))))), (.arr true (D.nil (D.cell 2 (nth r0 1))) (.ints .i64 (D.ints (D.cell 2 (nth r0 1))))), (.arr true (D.nil (D.cell 3 (nth r0 1))) (.ints .i64 (D.ints (D.cell 3 (nth r0 1))))), (.arr true (D.nil (D.cell 4 (nth r0 1))) (.ints .i64 (D.ints (D.cell 4 (nth r0 1)))))]), (.int .i64 (b3))]).bind fun r1 =>
 (go k impl_LedgerAdd [(.agg [(.int .i64 (D.toInt (D.cell 0 (nth r0 0)))), (.int .i64 (D.toInt (D.cell 1 (nth r0 0)))), (.int .i64 (D.toInt (D.cell 2 (nth r0 0)))), (.int .i64 (D.toInt (D.cell 3 (nth r0 0))))]), (.agg [(.int .i64 (D.toInt (D.cell 0 (nth r1 0)))), (.int .i64 (D.toInt (D.cell 1 (nth r1 0)))), (.int .i64 (D.toInt (D.cell 2 (nth r1 0)))), (.int .i64 (D.toInt (D.cell 3 (nth r1 0))))])]).bind fun r2 =>
 (go k impl_State_soak [(.ptr true [(.int .i64 (D.toInt (D.cell 0 (nth r1 1)))), (.arr true (D.nil (D.cell 1 (nth r1 1))) (.r3 (D.r3 (D.cell 1 (nth r1 1))))), (.arr true (D.nil (D.cell 2 (nth r1 1))) (.ints .i64 (D.ints (D.cell 2 (nth r1 1))))), (.arr true (D.nil (D.cell 3 (nth r1 1))) (.ints .i64 (D.ints (D.cell 3 (nth r1 1))))), (.arr true (D.nil (D.cell 4 (nth r1 1))) (.ints .i64 (D.ints (D.cell 4 (nth r1 1)))))]), (.int .i64 (b4))]).bind fun r3 =>
 (go k impl_LedgerAdd [(.agg [(.int .i64 (D.toInt (D.cell 0 (nth r2 0)))), (.int .i64 (D.toInt (D.cell 1 (nth r2 0)))), (.int .i64 (D.toInt (D.cell 2 (nth r2 0)))), (.int .i64 (D.toInt (D.cell 3 (nth r2 0))))]), (.agg [(.int .i64 (D.toInt (D.cell 0 (nth r3 0)))), (.int .i64 (D.toInt (D.cell 1 (nth r3 0)))), (.int .i64 (D.toInt (D.cell 2 (nth r3 0)))), (.int .i64 (D.toInt (D.cell 3 (nth r3 0))))])]).bind fun r4 =>
 (go k impl_State_decay [(.ptr true [(.int .i64 (D.toInt (D.cell 0 (nth r3 1)))), (.arr true (D.nil (D.cell 1 (nth r3 1))) (.r3 (D.r3 (D.cell 1 (nth r3 1))))), (.arr true (D.nil (D.cell 2 (nth r3 1))) (.ints .i64 (D.ints (D.cell 2 (nth r3 1))))), (.arr true (D.nil (D.cell 3 (nth r3 1))) (.ints .i64 (D.ints (D.cell 3 (nth r3 1))))), (.arr true (D.nil (D.cell 4 (nth r3 1))) (.ints .i64 (D.ints (D.cell 4 (nth r3 1)))))]), (.int .i64 (b5))]).bind fun r5 =>
 (go k impl_LedgerAdd [(.agg [(.int .i64 (D.toInt (D.cell 0 (nth r4 0)))), (.int .i64 (D.toInt (D.cell 1 (nth r4 0)))), (.int .i64 (D.toInt (D.cell 2 (nth r4 0)))), (.int .i64 (D.toInt (D.cell 3 (nth r4 0))))]), (.agg [(.int .i64 (D.toInt (D.cell 0 (nth r5 0)))), (.int .i64 (D.toInt (D.cell 1 (nth r5 0)))), (.int .i64 (D.toInt (D.cell 2 (nth r5 0)))), (.int .i64 (D.toInt (D.cell 3 (nth r5 0))))])]).bind fun r6 =>
 (go k impl_State_macro [(.ptr true [(.int .i64 (D.toInt (D.cell 0 (nth r5 1)))), (.arr true (D.nil (D.cell 1 (nth r5 1))) (.r3 (D.r3 (D.cell 1 (nth r5 1))))), (.arr true (D.nil (D.cell 2 (nth r5 1))) (.ints .i64 (D.ints (D.cell 2 (nth r5 1))))), (.arr true (D.nil (D.cell 3 (nth r5 1))) (.ints .i64 (D.ints (D.cell 3 (nth r5 1))))), (.arr true (D.nil (D.cell 4 (nth r5 1))) (.ints .i64 (D.ints (D.cell 4 (nth r5 1)))))])]).bind fun r7 =>
 cond (decide ((0 : Int) < b8))
 (cond (!decide (b8 = (0 : Int)))
 (cond (decide (Int.tmod (IntKind.wrap .i64 (c + (1 : Int))) b8 = (0 : Int)))
 ((go k impl_State_adapt [(.ptr true [(.int .i64 (D.toInt (D.cell 0 (nth r7 0)))), (.arr true (D.nil (D.cell 1 (nth r7 0))) (.r3 (D.r3 (D.cell 1 (nth r7 0))))), (.arr true (D.nil (D.cell 2 (nth r7 0))) (.ints .i64 (D.ints (D.cell 2 (nth r7 0))))), (.arr true (D.nil (D.cell 3 (nth r7 0))) (.ints .i64 (D.ints (D.cell 3 (nth r7 0))))), (.arr true (D.nil (D.cell 4 (nth r7 0))) (.ints .i64 (D.ints (D.cell 4 (nth r7 0)))))]), (.int .i64 (b6)), (.int .i64 (b7))]).bind fun r8 =>
 some [(.agg [(.int .i64 (D.toInt (D.cell 0 (nth r6 0)))), (.int .i64 (D.toInt (D.cell 1 (nth r6 0)))), (.int .i64 (D.toInt (D.cell 2 (nth r6 0)))), (.int .i64 (D.toInt (D.cell 3 (nth r6 0))))]), (.ptr true [(.int .i64 (D.toInt (D.cell 0 (nth r8 0)))), (.arr true (D.nil (D.cell 1 (nth r8 0))) (.r3 (D.r3 (D.cell 1 (nth r8 0))))), (.arr true (D.nil (D.cell 2 (nth r8 0))) (.ints .i64 (D.ints (D.cell 2 (nth r8 0))))), (.arr true (D.nil (D.cell 3 (nth r8 0))) (.ints .i64 (D.ints (D.cell 3 (nth r8 0))))), (.arr true (D.nil (D.cell 4 (nth r8 0))) (.ints .i64 (D.ints (D.cell 4 (nth r8 0)))))])])
 (some [(.agg [(.int .i64 (D.toInt (D.cell 0 (nth r6 0)))), (.int .i64 (D.toInt (D.cell 1 (nth r6 0)))), (.int .i64 (D.toInt (D.cell 2 (nth r6 0)))), (.int .i64 (D.toInt (D.cell 3 (nth r6 0))))]), (.ptr true [(.int .i64 (D.toInt (D.cell 0 (nth r7 0)))), (.arr true (D.nil (D.cell 1 (nth r7 0))) (.r3 (D.r3 (D.cell 1 (nth r7 0))))), (.arr true (D.nil (D.cell 2 (nth r7 0))) (.ints .i64 (D.ints (D.cell 2 (nth r7 0))))), (.arr true (D.nil (D.cell 3 (nth r7 0))) (.ints .i64 (D.ints (D.cell 3 (nth r7 0))))), (.arr true (D.nil (D.cell 4 (nth r7 0))) (.ints .i64 (D.ints (D.cell 4 (nth r7 0)))))])]))
 (none))
 (some [(.agg [(.int .i64 (D.toInt (D.cell 0 (nth r6 0)))), (.int .i64 (D.toInt (D.cell 1 (nth r6 0)))), (.int .i64 (D.toInt (D.cell 2 (nth r6 0)))), (.int .i64 (D.toInt (D.cell 3 (nth r6 0))))]), (.ptr true [(.int .i64 (D.toInt (D.cell 0 (nth r7 0)))), (.arr true (D.nil (D.cell 1 (nth r7 0))) (.r3 (D.r3 (D.cell 1 (nth r7 0))))), (.arr true (D.nil (D.cell 2 (nth r7 0))) (.ints .i64 (D.ints (D.cell 2 (nth r7 0))))), (.arr true (D.nil (D.cell 3 (nth r7 0))) (.ints .i64 (D.ints (D.cell 3 (nth r7 0))))), (.arr true (D.nil (D.cell 4 (nth r7 0))) (.ints .i64 (D.ints (D.cell 4 (nth r7 0)))))])]) := by kernel_rfl
theorem qgy (k : Nat) (a0 a1 a2 a3 b0 b1 b2 b3 : Int) : go (k + 1) impl_LedgerAdd [(.agg [(.int .i64 (a0)), (.int .i64 (a1)), (.int .i64 (a2)), (.int .i64 (a3))]), (.agg [(.int .i64 (b0)), (.int .i64 (b1)), (.int .i64 (b2)), (.int .i64 (b3))])] =
 some [(.agg [(.int .i64 (IntKind.wrap .i64 (a0 + b0))), (.int .i64 (IntKind.wrap .i64 (a1 + b1))), (.int .i64 (IntKind.wrap .i64 (a2 + b2))), (.int .i64 (IntKind.wrap .i64 (a3 + b3)))])] := by kernel_rfl
theorem qj7 (k : Nat) (a0 : Int) (a1z : Bool) (a1 : List (Int × Int × Int)) (a2z : Bool) (a2 : List Int) (a3z : Bool) (a3 : List Int) (a4z : Bool) (a4 : List Int) (b0 b1 b2 : Int) : go (k + 1) spec_l13Apply [(.agg [(.int .i64 (a0)), (.arr false (a1z) (.r3 (a1))), (.arr false (a2z) (.ints .i64 (a2))), (.arr false (a3z) (.ints .i64 (a3))), (.arr false (a4z) (.ints .i64 (a4)))]), (.agg [(.int .i64 (b0)), (.int .i64 (b1)), (.int .i64 (b2))])] =
 (go k spec_l07Copy [(.agg [(.int .i64 (a0)), (.arr false (a1z) (.r3 (a1))), (.arr false (a2z) (.ints .i64 (a2))), (.arr false (a3z) (.ints .i64 (a3))), (.arr false (a4z) (.ints .i64 (a4)))])]).bind fun r0 =>
 cond (decide ((0 : Int) ≤ IntKind.wrap .i64 (nI (List.length a2) - (1 : Int))) && decide (IntKind.wrap .i64 (nI (List.length a2) - (1 : Int)) < nI (List.length a2)))
 (cond (decide ((0 : Int) ≤ IntKind.wrap .i64 (nI (List.length a2) - (1 : Int))) && decide (IntKind.wrap .i64 (nI (List.length a2) - (1 : Int)) < nI (List.length a3)))
 (cond (decide ((0 : Int) ≤ IntKind.wrap .i64 (nI (List.length a2) - (1 : Int))) && decide (IntKind.wrap .i64 (nI (List.length a2) - (1 : Int)) < nI (List.length a2)))
 ((go k spec_ShareOut [(.int .i64 (List.getD a3 (Int.toNat (IntKind.wrap .i64 (nI (List.length a2) - (1 : Int)))) (0 : Int))), (.int .i64 (IntKind.wrap .i64 (Int.tdiv (IntKind.wrap .i64 (List.getD a2 (Int.toNat (IntKind.wrap .i64 (nI (List.length a2) - (1 : Int)))) (0 : Int) * b2)) (1000 : Int)))), (.int .i64 (List.getD a2 (Int.toNat (IntKind.wrap .i64 (nI (List.length a2) - (1 : Int)))) (0 : Int)))]).bind fun r1 =>
 cond (decide ((0 : Int) ≤ IntKind.wrap .i64 (nI (List.length a2) - (1 : Int))) && decide (IntKind.wrap .i64 (nI (List.length a2) - (1 : Int)) < nI (List.length (D.ints (D.cell 2 (nth r0 0))))))
 (cond (decide ((0 : Int) ≤ IntKind.wrap .i64 (nI (List.length a2) - (1 : Int))) && decide (IntKind.wrap .i64 (nI (List.length a2) - (1 : Int)) < nI (List.length (D.ints (D.cell 2 (nth r0 0))))))
 (cond (decide ((0 : Int) ≤ IntKind.wrap .i64 (nI (List.length a2) - (1 : Int))) && decide (IntKind.wrap .i64 (nI (List.length a2) - (1 : Int)) < nI (List.length (D.ints (D.cell 3 (nth r0 0))))))
 (cond (decide ((0 : Int) ≤ IntKind.wrap .i64 (nI (List.length a2) - (1 : Int))) && decide (IntKind.wrap .i64 (nI (List.length a2) - (1 : Int)) < nI (List.length (D.ints (D.cell 3 (nth r0 0))))))
 ((go k spec_l07Sum [(.arr false (D.nil (D.cell 2 (nth r0 0))) (.ints .i64 (List.set (D.ints (D.cell 2 (nth r0 0))) (Int.toNat (IntKind.wrap .i64 (nI (List.length a2) - (1 : Int)))) (IntKind.wrap .i64 (List.getD (D.ints (D.cell 2 (nth r0 0))) (Int.toNat (IntKind.wrap .i64 (nI (List.length a2) - (1 : Int)))) (0 : Int) - IntKind.wrap .i64 (Int.tdiv (IntKind.wrap .i64 (List.getD a2 (Int.toNat (IntKind.wrap .i64 (nI (List.length a2) - (1 : Int)))) (0 : Int) * b2)) (1000 : Int)))))))]).bind fun r2 =>
 cond (decide (IntKind.wrap .i64 (D.toInt (nth r2 0) + b0) ≤ (10000000 : Int)))
 (cond (decide ((0 : Int) ≤ (0 : Int)) && decide ((0 : Int) < nI (List.length (List.set (D.ints (D.cell 2 (nth r0 0))) (Int.toNat (IntKind.wrap .i64 (nI (List.length a2) - (1 : Int)))) (IntKind.wrap .i64 (List.getD (D.ints (D.cell 2 (nth r0 0))) (Int.toNat (IntKind.wrap .i64 (nI (List.length a2) - (1 : Int)))) (0 : Int) - IntKind.wrap .i64 (Int.tdiv (IntKind.wrap .i64 (List.getD a2 (Int.toNat (IntKind.wrap .i64 (nI (List.length a2) - (1 : Int)))) (0 : Int) * b2)) (1000 : Int))))))))
 (cond (decide ((0 : Int) ≤ (0 : Int)) && decide ((0 : Int) < nI (List.length (List.set (D.ints (D.cell 2 (nth r0 0))) (Int.toNat (IntKind.wrap .i64 (nI (List.length a2) - (1 : Int)))) (IntKind.wrap .i64 (List.getD (D.ints (D.cell 2 (nth r0 0))) (Int.toNat (IntKind.wrap .i64 (nI (List.length a2) - (1 : Int)))) (0 : Int) - IntKind.wrap .i64 (Int.tdiv (IntKind.wrap .i64 (List.getD a2 (Int.toNat (IntKind.wrap .i64 (nI (List.length a2) - (1 : Int)))) (0 : Int) * b2)) (1000 : Int))))))))
 (cond (decide ((0 : Int) ≤ (0 : Int)) && decide ((0 : Int) < nI (List.length (List.set (D.ints (D.cell 3 (nth r0 0))) (Int.toNat (IntKind.wrap .i64 (nI (List.length a2) - (1 : Int)))) (IntKind.wrap .i64 (List.getD (D.ints (D.cell 3 (nth r0 0))) (Int.toNat (IntKind.wrap .i64 (nI (List.length a2) - (1 : Int)))) (0 : Int) - D.toInt (nth r1 0)))))))
 (cond (decide ((0 : Int) ≤ (0 : Int)) && decide ((0 : Int) < nI (List.length (List.set (D.ints (D.cell 3 (nth r0 0))) (Int.toNat (IntKind.wrap .i64 (nI (List.length a2) - (1 : Int)))) (IntKind.wrap .i64 (List.getD (D.ints (D.cell 3 (nth r0 0))) (Int.toNat (IntKind.wrap .i64 (nI (List.length a2) - (1 : Int)))) (0 : Int) - D.toInt (nth r1 0)))))))
 (some [(.agg [(.int .i64 (D.toInt (D.cell 0 (nth r0 0)))), (.arr true (D.nil (D.cell 1 (nth r0 0))) (.r3 (D.r3 (D.cell 1 (nth r0 0))))), (.arr true (D.nil (D.cell 2 (nth r0 0))) (.ints .i64 (List.set (List.set (D.ints (D.cell 2 (nth r0 0))) (Int.toNat (IntKind.wrap .i64 (nI (List.length a2) - (1 : Int)))) (IntKind.wrap .i64 (List.getD (D.ints (D.cell 2 (nth r0 0))) (Int.toNat (IntKind.wrap .i64 (nI (List.length a2) - (1 : Int)))) (0 : Int) - IntKind.wrap .i64 (Int.tdiv (IntKind.wrap .i64 (List.getD a2 (Int.toNat (IntKind.wrap .i64 (nI (List.length a2) - (1 : Int)))) (0 : Int) * b2)) (1000 : Int))))) (Int.toNat (0 : Int)) (IntKind.wrap .i64 (List.getD (List.set (D.ints (D.cell 2 (nth r0 0))) (Int.toNat (IntKind.wrap .i64 (nI (List.length a2) - (1 : Int)))) (IntKind.wrap .i64 (List.getD (D.ints (D.cell 2 (nth r0 0))) (Int.toNat (IntKind.wrap .i64 (nI (List.length a2) - (1 : Int)))) (0 : Int) - IntKind.wrap .i64 (Int.tdiv (IntKind.wrap .i64 (List.getD a2 (Int.toNat (IntKind.wrap .i64 (nI (List.length a2) - (1 : Int)))) (0 : Int) * b2)) (1000 : Int))))) (Int.toNat (0 : Int)) (0 : Int) + b0))))), (.arr true (D.nil (D.cell 3 (nth r0 0))) (.ints .i64 (List.set (List.set (D.ints (D.cell 3 (nth r0 0))) (Int.toNat (IntKind.wrap .i64 (nI (List.length a2) - (1 : Int)))) (IntKind.wrap .i64 (List.getD (D.ints (D.cell 3 (nth r0 0))) (Int.toNat (IntKind.wrap .i64 (nI (List.length a2) - (1 : Int)))) (0 : Int) - D.toInt (nth r1 0)))) (Int.toNat (0 : Int)) (IntKind.wrap .i64 (List.getD (List.set (D.ints (D.cell 3 (nth r0 0))) (Int.toNat (IntKind.wrap .i64 (nI (List.length a2) - (1 : Int)))) (IntKind.wrap .i64 (List.getD (D.ints (D.cell 3 (nth r0 0))) (Int.toNat (IntKind.wrap .i64 (nI (List.length a2) - (1 : Int)))) (0 : Int) - D.toInt (nth r1 0)))) (Int.toNat (0 : Int)) (0 : Int) + IntKind.wrap .i64 (b0 * b1)))))), (.arr true (D.nil (D.cell 4 (nth r0 0))) (.ints .i64 (D.ints (D.cell 4 (nth r0 0)))))]), (.agg [(.int .i64 (b0)), (.int .i64 (IntKind.wrap .i64 (Int.tdiv (IntKind.wrap .i64 (List.getD a2 (Int.toNat (IntKind.wrap .i64 (nI (List.length a2) - (1 : Int)))) (0 : Int) * b2)) (1000 : Int)))), (.int .i64 (IntKind.wrap .i64 (b0 * b1))), (.int .i64 (D.toInt (nth r1 0)))])])
 (none))
 (none))
 (none))
 (none))
 (some [(.agg [(.int .i64 (D.toInt (D.cell 0 (nth r0 0)))), (.arr true (D.nil (D.cell 1 (nth r0 0))) (.r3 (D.r3 (D.cell 1 (nth r0 0))))), (.arr true (D.nil (D.cell 2 (nth r0 0))) (.ints .i64 (List.set (D.ints (D.cell 2 (nth r0 0))) (Int.toNat (IntKind.wrap .i64 (nI (List.length a2) - (1 : Int)))) (IntKind.wrap .i64 (List.getD (D.ints (D.cell 2 (nth r0 0))) (Int.toNat (IntKind.wrap .i64 (nI (List.length a2) - (1 : Int)))) (0 : Int) - IntKind.wrap .i64 (Int.tdiv (IntKind.wrap .i64 (List.getD a2 (Int.toNat (IntKind.wrap .i64 (nI (List.length a2) - (1 : Int)))) (0 : Int) * b2)) (1000 : Int))))))), (.arr true (D.nil (D.cell 3 (nth r0 0))) (.ints .i64 (List.set (D.ints (D.cell 3 (nth r0 0))) (Int.toNat (IntKind.wrap .i64 (nI (List.length a2) - (1 : Int)))) (IntKind.wrap .i64 (List.getD (D.ints (D.cell 3 (nth r0 0))) (Int.toNat (IntKind.wrap .i64 (nI (List.length a2) - (1 : Int)))) (0 : Int) - D.toInt (nth r1 0)))))), (.arr true (D.nil (D.cell 4 (nth r0 0))) (.ints .i64 (D.ints (D.cell 4 (nth r0 0)))))]), (.agg [(.int .i64 (0 : Int)), (.int .i64 (IntKind.wrap .i64 (Int.tdiv (IntKind.wrap .i64 (List.getD a2 (Int.toNat (IntKind.wrap .i64 (nI (List.length a2) - (1 : Int)))) (0 : Int) * b2)) (1000 : Int)))), (.int .i64 (0 : Int)), (.int .i64 (D.toInt (nth r1 0)))])]))
 (none))
 (none))
 (none))
 (none))
 (none))
 (none))
 (none) := by kernel_rfl
theorem qj9 (k : Nat) (a b : Int) : go (k + 1) spec_l14Part [(.int .i64 (a)), (.int .i64 (b))] =
 (go k spec_WidthOf [(.int .i64 (b))]).bind fun r0 =>
 some [(.int .i64 (IntKind.wrap .i64 (Int.tdiv (IntKind.wrap .i64 (a * D.toInt (nth r0 0))) (16 : Int))))] := by kernel_rfl
def qsx (x0 x1 x2 : Int) (z3 : Bool) (l4 : List (Int × Int × Int)) (z5 : Bool) (l6 : List Int) (z7 : Bool) (l8 : List Int) (z9 : Bool) (l10 : List Int) (x11 : Int) (z12 : Bool) (l13 : List (Int × Int × Int)) (z14 : Bool) (l15 : List Int) (z16 : Bool) (l17 : List Int) (z18 : Bool) (l19 : List Int) (x20 x21 x22 x23 x24 : Int) (z25 : Bool) (l26 : List (Int × Int × Int)) (z27 : Bool) (l28 : List Int) (z29 : Bool) (l30 : List Int) (z31 : Bool) (l32 : List Int) (x33 : Int) : St := ⟨fill 52 [(1, (.int .i64 (x0))), (2, (.ptr 4 (0) (0))), (4, (.ptr 9 (0) (0))), (5, (.ptr 10 (0) (0))), (6, (.ptr 15 (0) (0))), (7, (.int .i64 (x1))), (8, (.int .i64 (x2)))], [], [(.arr false (z3) (.r3 (l4))), (.arr false (z5) (.ints .i64 (l6))), (.arr false (z7) (.ints .i64 (l8))), (.arr false (z9) (.ints .i64 (l10))), (.box true [(.int .i64 (x11)), (.sl 0 none), (.sl 1 none), (.sl 2 none), (.sl 3 none)]), (.arr true (z12) (.r3 (l13))), (.arr true (z14) (.ints .i64 (l15))), (.arr true (z16) (.ints .i64 (l17))), (.arr true (z18) (.ints .i64 (l19))), (.box true [(.int .i64 (x20)), (.sl 5 none), (.sl 6 none), (.sl 7 none), (.sl 8 none)]), (.box true [(.int .i64 (x21)), (.int .i64 (x22)), (.int .i64 (x23)), (.int .i64 (x24))]), (.arr true (z25) (.r3 (l26))), (.arr true (z27) (.ints .i64 (l28))), (.arr true (z29) (.ints .i64 (l30))), (.arr true (z31) (.ints .i64 (l32))), (.box true [(.int .i64 (x33)), (.sl 11 none), (.sl 12 none), (.sl 13 none), (.sl 14 none)])]⟩
theorem qka (k : Nat) (a0 : Int) (a1z : Bool) (a1 : List (Int × Int × Int)) (a2z : Bool) (a2 : List Int) (a3z : Bool) (a3 : List Int) (a4z : Bool) (a4 : List Int) (b : Int) : go (k + 1) spec_l14Rain [(.agg [(.int .i64 (a0)), (.arr false (a1z) (.r3 (a1))), (.arr false (a2z) (.ints .i64 (a2))), (.arr false (a3z) (.ints .i64 (a3))), (.arr false (a4z) (.ints .i64 (a4)))]), (.int .i64 (b))] =
 (go k spec_l07Copy [(.agg [(.int .i64 (a0)), (.arr false (a1z) (.r3 (a1))), (.arr false (a2z) (.ints .i64 (a2))), (.arr false (a3z) (.ints .i64 (a3))), (.arr false (a4z) (.ints .i64 (a4)))])]).bind fun r0 =>
 lp k spec_l14Rain [] [] 4 k (qsx b (0 : Int) (0 : Int) a1z a1 a2z a2 a3z a3 a4z a4 a0 true ([]) true ([]) true ([]) true ([]) (0 : Int) (0 : Int) (0 : Int) (0 : Int) (0 : Int) (D.nil (D.cell 1 (nth r0 0))) (D.r3 (D.cell 1 (nth r0 0))) (D.nil (D.cell 2 (nth r0 0))) (D.ints (D.cell 2 (nth r0 0))) (D.nil (D.cell 3 (nth r0 0))) (D.ints (D.cell 3 (nth r0 0))) (D.nil (D.cell 4 (nth r0 0))) (D.ints (D.cell 4 (nth r0 0))) (D.toInt (D.cell 0 (nth r0 0)))) := by kernel_rfl
theorem qm3 (k n : Nat) (fu : List (Nat × Nat)) (x0 x1 x2 : Int) (z3 : Bool) (l4 : List (Int × Int × Int)) (z5 : Bool) (l6 : List Int) (z7 : Bool) (l8 : List Int) (z9 : Bool) (l10 : List Int) (x11 : Int) (z12 : Bool) (l13 : List (Int × Int × Int)) (z14 : Bool) (l15 : List Int) (z16 : Bool) (l17 : List Int) (z18 : Bool) (l19 : List Int) (x20 x21 x22 x23 x24 : Int) (z25 : Bool) (l26 : List (Int × Int × Int)) (z27 : Bool) (l28 : List Int) (z29 : Bool) (l30 : List Int) (z31 : Bool) (l32 : List Int) (x33 : Int) : lp k spec_l14Rain [] fu 4 (n + 1) (qsx x0 x1 x2 z3 l4 z5 l6 z7 l8 z9 l10 x11 z12 l13 z14 l15 z16 l17 z18 l19 x20 x21 x22 x23 x24 z25 l26 z27 l28 z29 l30 z31 l32 x33) =
 cond (decide (x2 < nI (List.length l6)))
 (cond (decide ((0 : Int) ≤ x2) && decide (x2 < nI (List.length l4)))
 ((go k spec_l14Part [(.int .i64 (x0)), (.int .i64 (Prod.fst (Prod.snd (List.getD l4 (Int.toNat x2) zz3))))]).bind fun r0 =>
 cond (decide ((0 : Int) ≤ x2) && decide (x2 < nI (List.length l28)))
 (cond (decide ((0 : Int) ≤ x2) && decide (x2 < nI (List.length l28)))
 (lp k spec_l14Rain [] fu 4 n (qsx x0 (IntKind.wrap .i64 (x1 + D.toInt (nth r0 0))) (IntKind.wrap .i64 (x2 + (1 : Int))) z3 l4 z5 l6 z7 l8 z9 l10 x11 z12 l13 z14 l15 z16 l17 z18 l19 x20 x21 x22 x23 x24 z25 l26 z27 (List.set l28 (Int.toNat x2) (IntKind.wrap .i64 (List.getD l28 (Int.toNat x2) (0 : Int) + D.toInt (nth r0 0)))) z29 l30 z31 l32 x33))
 (none))
 (none))
 (none))
 ((go k spec_l07Sum [(.arr false (z27) (.ints .i64 (l28)))]).bind fun r1 =>
 cond (decide ((10000000 : Int) < D.toInt (nth r1 0)))
 ((go k spec_l07Copy [(.agg [(.int .i64 (x11)), (.arr false (z3) (.r3 (l4))), (.arr false (z5) (.ints .i64 (l6))), (.arr false (z7) (.ints .i64 (l8))), (.arr false (z9) (.ints .i64 (l10)))])]).bind fun r2 =>
 some [(.agg [(.int .i64 (D.toInt (D.cell 0 (nth r2 0)))), (.arr true (D.nil (D.cell 1 (nth r2 0))) (.r3 (D.r3 (D.cell 1 (nth r2 0))))), (.arr true (D.nil (D.cell 2 (nth r2 0))) (.ints .i64 (D.ints (D.cell 2 (nth r2 0))))), (.arr true (D.nil (D.cell 3 (nth r2 0))) (.ints .i64 (D.ints (D.cell 3 (nth r2 0))))), (.arr true (D.nil (D.cell 4 (nth r2 0))) (.ints .i64 (D.ints (D.cell 4 (nth r2 0)))))]), (.agg [(.int .i64 (0 : Int)), (.int .i64 (0 : Int)), (.int .i64 (0 : Int)), (.int .i64 (0 : Int))])])
 (some [(.agg [(.int .i64 (x33)), (.arr true (z25) (.r3 (l26))), (.arr true (z27) (.ints .i64 (l28))), (.arr true (z29) (.ints .i64 (l30))), (.arr true (z31) (.ints .i64 (l32)))]), (.agg [(.int .i64 (x1)), (.int .i64 (0 : Int)), (.int .i64 (0 : Int)), (.int .i64 (0 : Int))])])) := by kernel_rfl
def qsy (x0 x1 : Int) (z2 : Bool) (l3 : List (Int × Int × Int)) (z4 : Bool) (l5 : List Int) (z6 : Bool) (l7 : List Int) (z8 : Bool) (l9 : List Int) (x10 : Int) (z11 : Bool) (l12 : List (Int × Int × Int)) (z13 : Bool) (l14 : List Int) (z15 : Bool) (l16 : List Int) (z17 : Bool) (l18 : List Int) (x19 x20 x21 x22 x23 : Int) (z24 : Bool) (l25 : List (Int × Int × Int)) (z26 : Bool) (l27 : List Int) (z28 : Bool) (l29 : List Int) (z30 : Bool) (l31 : List Int) (x32 x33 x34 x35 x36 : Int) : St := ⟨fill 82 [(1, (.int .i64 (x0))), (2, (.ptr 4 (0) (0))), (4, (.ptr 9 (0) (0))), (5, (.ptr 10 (0) (0))), (6, (.ptr 15 (0) (0))), (7, (.ptr 16 (0) (0))), (8, (.int .i64 (x1)))], [], [(.arr false (z2) (.r3 (l3))), (.arr false (z4) (.ints .i64 (l5))), (.arr false (z6) (.ints .i64 (l7))), (.arr false (z8) (.ints .i64 (l9))), (.box true [(.int .i64 (x10)), (.sl 0 none), (.sl 1 none), (.sl 2 none), (.sl 3 none)]), (.arr true (z11) (.r3 (l12))), (.arr true (z13) (.ints .i64 (l14))), (.arr true (z15) (.ints .i64 (l16))), (.arr true (z17) (.ints .i64 (l18))), (.box true [(.int .i64 (x19)), (.sl 5 none), (.sl 6 none), (.sl 7 none), (.sl 8 none)]), (.box true [(.int .i64 (x20)), (.int .i64 (x21)), (.int .i64 (x22)), (.int .i64 (x23))]), (.arr true (z24) (.r3 (l25))), (.arr true (z26) (.ints .i64 (l27))), (.arr true (z28) (.ints .i64 (l29))), (.arr true (z30) (.ints .i64 (l31))), (.box true [(.int .i64 (x32)), (.sl 11 none), (.sl 12 none), (.sl 13 none), (.sl 14 none)]), (.box true [(.int .i64 (x33)), (.int .i64 (x34)), (.int .i64 (x35)), (.int .i64 (x36))])]⟩
theorem qkb (k : Nat) (a0 : Int) (a1z : Bool) (a1 : List (Int × Int × Int)) (a2z : Bool) (a2 : List Int) (a3z : Bool) (a3 : List Int) (a4z : Bool) (a4 : List Int) (b : Int) : go (k + 1) spec_l14Soak [(.agg [(.int .i64 (a0)), (.arr false (a1z) (.r3 (a1))), (.arr false (a2z) (.ints .i64 (a2))), (.arr false (a3z) (.ints .i64 (a3))), (.arr false (a4z) (.ints .i64 (a4)))]), (.int .i64 (b))] =
 (go k spec_l07Copy [(.agg [(.int .i64 (a0)), (.arr false (a1z) (.r3 (a1))), (.arr false (a2z) (.ints .i64 (a2))), (.arr false (a3z) (.ints .i64 (a3))), (.arr false (a4z) (.ints .i64 (a4)))])]).bind fun r0 =>
 lp k spec_l14Soak [] [] 4 k (qsy b (0 : Int) a1z a1 a2z a2 a3z a3 a4z a4 a0 true ([]) true ([]) true ([]) true ([]) (0 : Int) (0 : Int) (0 : Int) (0 : Int) (0 : Int) (D.nil (D.cell 1 (nth r0 0))) (D.r3 (D.cell 1 (nth r0 0))) (D.nil (D.cell 2 (nth r0 0))) (D.ints (D.cell 2 (nth r0 0))) (D.nil (D.cell 3 (nth r0 0))) (D.ints (D.cell 3 (nth r0 0))) (D.nil (D.cell 4 (nth r0 0))) (D.ints (D.cell 4 (nth r0 0))) (D.toInt (D.cell 0 (nth r0 0))) (0 : Int) (0 : Int) (0 : Int) (0 : Int)) := by kernel_rfl
theorem qm4 (k n : Nat) (fu : List (Nat × Nat)) (x0 x1 : Int) (z2 : Bool) (l3 : List (Int × Int × Int)) (z4 : Bool) (l5 : List Int) (z6 : Bool) (l7 : List Int) (z8 : Bool) (l9 : List Int) (x10 : Int) (z11 : Bool) (l12 : List (Int × Int × Int)) (z13 : Bool) (l14 : List Int) (z15 : Bool) (l16 : List Int) (z17 : Bool) (l18 : List Int) (x19 x20 x21 x22 x23 : Int) (z24 : Bool) (l25 : List (Int × Int × Int)) (z26 : Bool) (l27 : List Int) (z28 : Bool) (l29 : List Int) (z30 : Bool) (l31 : List Int) (x32 x33 x34 x35 x36 : Int) : lp k spec_l14Soak [] fu 4 (n + 1) (qsy x0 x1 z2 l3 z4 l5 z6 l7 z8 l9 x10 z11 l12 z13 l14 z15 l16 z17 l18 x19 x20 x21 x22 x23 z24 l25 z26 l27 z28 l29 z30 l31 x32 x33 x34 x35 x36) =
 cond (decide (x1 < nI (List.length l5)))
 (cond (decide ((0 : Int) ≤ x1) && decide (x1 < nI (List.length l3)))
 ((go k spec_l14Part [(.int .i64 (x0)), (.int .i64 (Prod.fst (Prod.snd (List.getD l3 (Int.toNat x1) zz3))))]).bind fun r0 =>
 cond (decide ((0 : Int) ≤ x1) && decide (x1 < nI (List.length l5)))
 (cond (decide ((0 : Int) ≤ x1) && decide (x1 < nI (List.length l7)))
 (cond (decide ((0 : Int) ≤ x1) && decide (x1 < nI (List.length l5)))
 ((go k spec_ShareOut [(.int .i64 (List.getD l7 (Int.toNat x1) (0 : Int))), (.int .i64 (if List.getD l5 (Int.toNat x1) (0 : Int) < D.toInt (nth r0 0) then List.getD l5 (Int.toNat x1) (0 : Int) else D.toInt (nth r0 0))), (.int .i64 (List.getD l5 (Int.toNat x1) (0 : Int)))]).bind fun r1 =>
 cond (decide ((0 : Int) ≤ x1) && decide (x1 < nI (List.length l27)))
 (cond (decide ((0 : Int) ≤ x1) && decide (x1 < nI (List.length l27)))
 (cond (decide ((0 : Int) ≤ x1) && decide (x1 < nI (List.length l29)))
 (cond (decide ((0 : Int) ≤ x1) && decide (x1 < nI (List.length l29)))
 (lp k spec_l14Soak [] fu 4 n (qsy x0 (IntKind.wrap .i64 (x1 + (1 : Int))) z2 l3 z4 l5 z6 l7 z8 l9 x10 z11 l12 z13 l14 z15 l16 z17 l18 x19 x20 x21 x22 x23 z24 l25 z26 (List.set l27 (Int.toNat x1) (IntKind.wrap .i64 (List.getD l27 (Int.toNat x1) (0 : Int) - if List.getD l5 (Int.toNat x1) (0 : Int) < D.toInt (nth r0 0) then List.getD l5 (Int.toNat x1) (0 : Int) else D.toInt (nth r0 0)))) z28 (List.set l29 (Int.toNat x1) (IntKind.wrap .i64 (List.getD l29 (Int.toNat x1) (0 : Int) - D.toInt (nth r1 0)))) z30 l31 x32 x33 (IntKind.wrap .i64 (x34 + if List.getD l5 (Int.toNat x1) (0 : Int) < D.toInt (nth r0 0) then List.getD l5 (Int.toNat x1) (0 : Int) else D.toInt (nth r0 0))) x35 (IntKind.wrap .i64 (x36 + D.toInt (nth r1 0)))))
 (none))
 (none))
 (none))
 (none))
 (none))
 (none))
 (none))
 (none))
 (some [(.agg [(.int .i64 (x32)), (.arr true (z24) (.r3 (l25))), (.arr true (z26) (.ints .i64 (l27))), (.arr true (z28) (.ints .i64 (l29))), (.arr true (z30) (.ints .i64 (l31)))]), (.agg [(.int .i64 (x33)), (.int .i64 (x34)), (.int .i64 (x35)), (.int .i64 (x36))])]) := by kernel_rfl
def qsz (x0 x1 : Int) (z2 : Bool) (l3 : List (Int × Int × Int)) (z4 : Bool) (l5 : List Int) (z6 : Bool) (l7 : List Int) (z8 : Bool) (l9 : List Int) (x10 : Int) (z11 : Bool) (l12 : List (Int × Int × Int)) (z13 : Bool) (l14 : List Int) (z15 : Bool) (l16 : List Int) (z17 : Bool) (l18 : List Int) (x19 x20 x21 x22 x23 : Int) (z24 : Bool) (l25 : List (Int × Int × Int)) (z26 : Bool) (l27 : List Int) (z28 : Bool) (l29 : List Int) (z30 : Bool) (l31 : List Int) (x32 x33 x34 x35 x36 : Int) : St := ⟨fill 46 [(1, (.int .i64 (x0))), (2, (.ptr 4 (0) (0))), (4, (.ptr 9 (0) (0))), (5, (.ptr 10 (0) (0))), (6, (.ptr 15 (0) (0))), (7, (.ptr 16 (0) (0))), (8, (.int .i64 (x1)))], [], [(.arr false (z2) (.r3 (l3))), (.arr false (z4) (.ints .i64 (l5))), (.arr false (z6) (.ints .i64 (l7))), (.arr false (z8) (.ints .i64 (l9))), (.box true [(.int .i64 (x10)), (.sl 0 none), (.sl 1 none), (.sl 2 none), (.sl 3 none)]), (.arr true (z11) (.r3 (l12))), (.arr true (z13) (.ints .i64 (l14))), (.arr true (z15) (.ints .i64 (l16))), (.arr true (z17) (.ints .i64 (l18))), (.box true [(.int .i64 (x19)), (.sl 5 none), (.sl 6 none), (.sl 7 none), (.sl 8 none)]), (.box true [(.int .i64 (x20)), (.int .i64 (x21)), (.int .i64 (x22)), (.int .i64 (x23))]), (.arr true (z24) (.r3 (l25))), (.arr true (z26) (.ints .i64 (l27))), (.arr true (z28) (.ints .i64 (l29))), (.arr true (z30) (.ints .i64 (l31))), (.box true [(.int .i64 (x32)), (.sl 11 none), (.sl 12 none), (.sl 13 none), (.sl 14 none)]), (.box true [(.int .i64 (x33)), (.int .i64 (x34)), (.int .i64 (x35)), (.int .i64 (x36))])]⟩
theorem qkc (k : Nat) (a0 : Int) (a1z : Bool) (a1 : List (Int × Int × Int)) (a2z : Bool) (a2 : List Int) (a3z : Bool) (a3 : List Int) (a4z : Bool) (a4 : List Int) (b : Int) : go (k + 1) spec_l15Decay [(.agg [(.int .i64 (a0)), (.arr false (a1z) (.r3 (a1))), (.arr false (a2z) (.ints .i64 (a2))), (.arr false (a3z) (.ints .i64 (a3))), (.arr false (a4z) (.ints .i64 (a4)))]), (.int .i64 (b))] =
 (go k spec_l07Copy [(.agg [(.int .i64 (a0)), (.arr false (a1z) (.r3 (a1))), (.arr false (a2z) (.ints .i64 (a2))), (.arr false (a3z) (.ints .i64 (a3))), (.arr false (a4z) (.ints .i64 (a4)))])]).bind fun r0 =>
 lp k spec_l15Decay [] [] 4 k (qsz b (0 : Int) a1z a1 a2z a2 a3z a3 a4z a4 a0 true ([]) true ([]) true ([]) true ([]) (0 : Int) (0 : Int) (0 : Int) (0 : Int) (0 : Int) (D.nil (D.cell 1 (nth r0 0))) (D.r3 (D.cell 1 (nth r0 0))) (D.nil (D.cell 2 (nth r0 0))) (D.ints (D.cell 2 (nth r0 0))) (D.nil (D.cell 3 (nth r0 0))) (D.ints (D.cell 3 (nth r0 0))) (D.nil (D.cell 4 (nth r0 0))) (D.ints (D.cell 4 (nth r0 0))) (D.toInt (D.cell 0 (nth r0 0))) (0 : Int) (0 : Int) (0 : Int) (0 : Int)) := by kernel_rfl
theorem qm5 (k n : Nat) (fu : List (Nat × Nat)) (x0 x1 : Int) (z2 : Bool) (l3 : List (Int × Int × Int)) (z4 : Bool) (l5 : List Int) (z6 : Bool) (l7 : List Int) (z8 : Bool) (l9 : List Int) (x10 : Int) (z11 : Bool) (l12 : List (Int × Int × Int)) (z13 : Bool) (l14 : List Int) (z15 : Bool) (l16 : List Int) (z17 : Bool) (l18 : List Int) (x19 x20 x21 x22 x23 : Int) (z24 : Bool) (l25 : List (Int × Int × Int)) (z26 : Bool) (l27 : List Int) (z28 : Bool) (l29 : List Int) (z30 : Bool) (l31 : List Int) (x32 x33 x34 x35 x36 : Int) : lp k spec_l15Decay [] fu 4 (n + 1) (qsz x0 x1 z2 l3 z4 l5 z6 l7 z8 l9 x10 z11 l12 z13 l14 z15 l16 z17 l18 x19 x20 x21 x22 x23 z24 l25 z26 l27 z28 l29 z30 l31 x32 x33 x34 x35 x36) =
 cond (decide (x1 < nI (List.length l7)))
 (cond (decide ((0 : Int) ≤ x1) && decide (x1 < nI (List.length l7)))
 (cond (decide ((0 : Int) ≤ x1) && decide (x1 < nI (List.length l29)))
 (cond (decide ((0 : Int) ≤ x1) && decide (x1 < nI (List.length l29)))
 (lp k spec_l15Decay [] fu 4 n (qsz x0 (IntKind.wrap .i64 (x1 + (1 : Int))) z2 l3 z4 l5 z6 l7 z8 l9 x10 z11 l12 z13 l14 z15 l16 z17 l18 x19 x20 x21 x22 x23 z24 l25 z26 l27 z28 (List.set l29 (Int.toNat x1) (IntKind.wrap .i64 (List.getD l29 (Int.toNat x1) (0 : Int) - IntKind.wrap .i64 (Int.tdiv (IntKind.wrap .i64 (List.getD l7 (Int.toNat x1) (0 : Int) * x0)) (1000 : Int))))) z30 l31 x32 x33 x34 x35 (IntKind.wrap .i64 (x36 + IntKind.wrap .i64 (Int.tdiv (IntKind.wrap .i64 (List.getD l7 (Int.toNat x1) (0 : Int) * x0)) (1000 : Int))))))
 (none))
 (none))
 (none))
 (some [(.agg [(.int .i64 (x32)), (.arr true (z24) (.r3 (l25))), (.arr true (z26) (.ints .i64 (l27))), (.arr true (z28) (.ints .i64 (l29))), (.arr true (z30) (.ints .i64 (l31)))]), (.agg [(.int .i64 (x33)), (.int .i64 (x34)), (.int .i64 (x35)), (.int .i64 (x36))])]) := by kernel_rfl
def qs3 (x0 x1 x2 x3 x4 x5 x6 x7 x8 x9 x10 : Int) (z11 : Bool) (l12 : List (Int × Int × Int)) (z13 : Bool) (l14 : List Int) (z15 : Bool) (l16 : List Int) (z17 : Bool) (l18 : List Int) (x19 x20 x21 x22 x23 : Int) (z24 : Bool) (l25 : List (Int × Int × Int)) (z26 : Bool) (l27 : List Int) (z28 : Bool) (l29 : List Int) (z30 : Bool) (l31 : List Int) (x32 x33 x34 x35 x36 : Int) : St := ⟨fill 79 [(2, (.int .i64 (x0))), (4, (.ptr 0 (0) (0))), (6, (.ptr 5 (0) (0))), (7, (.ptr 6 (0) (0))), (8, (.ptr 11 (0) (0))), (9, (.ptr 12 (0) (0))), (16, (.int .i64 (x1)))], [], [(.box true [(.int .i64 (x2)), (.int .i64 (x3)), (.int .i64 (x4)), (.int .i64 (x5)), (.int .i64 (x6)), (.int .i64 (x7)), (.int .i64 (x8)), (.int .i64 (x9)), (.int .i64 (x10))]), (.arr true (z11) (.r3 (l12))), (.arr true (z13) (.ints .i64 (l14))), (.arr true (z15) (.ints .i64 (l16))), (.arr true (z17) (.ints .i64 (l18))), (.box true [(.int .i64 (x19)), (.sl 1 none), (.sl 2 none), (.sl 3 none), (.sl 4 none)]), (.box true [(.int .i64 (x20)), (.int .i64 (x21)), (.int .i64 (x22)), (.int .i64 (x23))]), (.arr true (z24) (.r3 (l25))), (.arr true (z26) (.ints .i64 (l27))), (.arr true (z28) (.ints .i64 (l29))), (.arr true (z30) (.ints .i64 (l31))), (.box true [(.int .i64 (x32)), (.sl 7 none), (.sl 8 none), (.sl 9 none), (.sl 10 none)]), (.box true [(.int .i64 (x33)), (.int .i64 (x34)), (.int .i64 (x35)), (.int .i64 (x36))])]⟩
theorem qkg (k : Nat) (a0 : Int) (a1z : Bool) (a1 : List (Int × Int × Int)) (a2z : Bool) (a2 : List Int) (a3z : Bool) (a3 : List Int) (a4z : Bool) (a4 : List Int) (b0 b1 b2 b3 b4 b5 b6 b7 b8 c : Int) : go (k + 1) spec_l18Macro [(.agg [(.int .i64 (a0)), (.arr false (a1z) (.r3 (a1))), (.arr false (a2z) (.ints .i64 (a2))), (.arr false (a3z) (.ints .i64 (a3))), (.arr false (a4z) (.ints .i64 (a4)))]), (.agg [(.int .i64 (b0)), (.int .i64 (b1)), (.int .i64 (b2)), (.int .i64 (b3)), (.int .i64 (b4)), (.int .i64 (b5)), (.int .i64 (b6)), (.int .i64 (b7)), (.int .i64 (b8))]), (.int .i64 (c))] =
 (go k spec_l13Apply [(.agg [(.int .i64 (a0)), (.arr false (a1z) (.r3 (a1))), (.arr false (a2z) (.ints .i64 (a2))), (.arr false (a3z) (.ints .i64 (a3))), (.arr false (a4z) (.ints .i64 (a4)))]), (.agg [(.int .i64 (b0)), (.int .i64 (b1)), (.int .i64 (b2))])]).bind fun r0 =>
 (go k spec_l14Rain [(.agg [(.int .i64 (D.toInt (D.cell 0 (nth r0 0)))), (.arr false (D.nil (D.cell 1 (nth r0 0))) (.r3 (D.r3 (D.cell 1 (nth r0 0))))), (.arr false (D.nil (D.cell 2 (nth r0 0))) (.ints .i64 (D.ints (D.cell 2 (nth r0 0))))), (.arr false (D.nil (D.cell 3 (nth r0 0))) (.ints .i64 (D.ints (D.cell 3 (nth r0 0))))), (.arr false (D.nil (D.cell 4 (nth r0 0))) (.ints .i64 (D.ints (D.cell 4 (nth r0 0)))))]), (.int .i64 (b3))]).bind fun r1 =>
 (go k spec_l14Soak [(.agg [(.int .i64 (D.toInt (D.cell 0 (nth r1 0)))), (.arr false (D.nil (D.cell 1 (nth r1 0))) (.r3 (D.r3 (D.cell 1 (nth r1 0))))), (.arr false (D.nil (D.cell 2 (nth r1 0))) (.ints .i64 (D.ints (D.cell 2 (nth r1 0))))), (.arr false (D.nil (D.cell 3 (nth r1 0))) (.ints .i64 (D.ints (D.cell 3 (nth r1 0))))), (.arr false (D.nil (D.cell 4 (nth r1 0))) (.ints .i64 (D.ints (D.cell 4 (nth r1 0)))))]), (.int .i64 (b4))]).bind fun r2 =>
 (go k spec_l15Decay [(.agg [(.int .i64 (D.toInt (D.cell 0 (nth r2 0)))), (.arr false (D.nil (D.cell 1 (nth r2 0))) (.r3 (D.r3 (D.cell 1 (nth r2 0))))), (.arr false (D.nil (D.cell 2 (nth r2 0))) (.ints .i64 (D.ints (D.cell 2 (nth r2 0))))), (.arr false (D.nil (D.cell 3 (nth r2 0))) (.ints .i64 (D.ints (D.cell 3 (nth r2 0))))), (.arr false (D.nil (D.cell 4 (nth r2 0))) (.ints .i64 (D.ints (D.cell 4 (nth r2 0)))))]), (.int .i64 (b5))]).bind fun r3 =>
 (go k spec_LedgerAdd [(.agg [(.int .i64 (D.toInt (D.cell 0 (nth r0 1)))), (.int .i64 (D.toInt (D.cell 1 (nth r0 1)))), (.int .i64 (D.toInt (D.cell 2 (nth r0 1)))), (.int .i64 (D.toInt (D.cell 3 (nth r0 1))))]), (.agg [(.int .i64 (D.toInt (D.cell 0 (nth r1 1)))), (.int .i64 (D.toInt (D.cell 1 (nth r1 1)))), (.int .i64 (D.toInt (D.cell 2 (nth r1 1)))), (.int .i64 (D.toInt (D.cell 3 (nth r1 1))))])]).bind fun r4 =>
 (go k spec_LedgerAdd [(.agg [(.int .i64 (D.toInt (D.cell 0 (nth r2 1)))), (.int .i64 (D.toInt (D.cell 1 (nth r2 1)))), (.int .i64 (D.toInt (D.cell 2 (nth r2 1)))), (.int .i64 (D.toInt (D.cell 3 (nth r2 1))))]), (.agg [(.int .i64 (D.toInt (D.cell 0 (nth r3 1)))), (.int .i64 (D.toInt (D.cell 1 (nth r3 1)))), (.int .i64 (D.toInt (D.cell 2 (nth r3 1)))), (.int .i64 (D.toInt (D.cell 3 (nth r3 1))))])]).bind fun r5 =>
 (go k spec_LedgerAdd [(.agg [(.int .i64 (D.toInt (D.cell 0 (nth r4 0)))), (.int .i64 (D.toInt (D.cell 1 (nth r4 0)))), (.int .i64 (D.toInt (D.cell 2 (nth r4 0)))), (.int .i64 (D.toInt (D.cell 3 (nth r4 0))))]), (.agg [(.int .i64 (D.toInt (D.cell 0 (nth r5 0)))), (.int .i64 (D.toInt (D.cell 1 (nth r5 0)))), (.int .i64 (D.toInt (D.cell 2 (nth r5 0)))), (.int .i64 (D.toInt (D.cell 3 (nth r5 0))))])]).bind fun r6 =>
 lp k spec_l18Macro [] [] 8 k (qs3 c (0 : Int) b0 b1 b2 b3 b4 b5 b6 b7 b8 true ([]) true ([]) true ([]) true ([]) (0 : Int) (0 : Int) (0 : Int) (0 : Int) (0 : Int) (D.nil (D.cell 1 (nth r3 0))) (D.r3 (D.cell 1 (nth r3 0))) (D.nil (D.cell 2 (nth r3 0))) (D.ints (D.cell 2 (nth r3 0))) (D.nil (D.cell 3 (nth r3 0))) (D.ints (D.cell 3 (nth r3 0))) (D.nil (D.cell 4 (nth r3 0))) (D.ints (D.cell 4 (nth r3 0))) (D.toInt (D.cell 0 (nth r3 0))) (D.toInt (D.cell 0 (nth r6 0))) (D.toInt (D.cell 1 (nth r6 0))) (D.toInt (D.cell 2 (nth r6 0))) (D.toInt (D.cell 3 (nth r6 0)))) := by kernel_rfl
theorem qm9 (k n : Nat) (fu : List (Nat × Nat)) (x0 x1 x2 x3 x4 x5 x6 x7 x8 x9 x10 : Int) (z11 : Bool) (l12 : List (Int × Int × Int)) (z13 : Bool) (l14 : List Int) (z15 : Bool) (l16 : List Int) (z17 : Bool) (l18 : List Int) (x19 x20 x21 x22 x23 : Int) (z24 : Bool) (l25 : List (Int × Int × Int)) (z26 : Bool) (l27 : List Int) (z28 : Bool) (l29 : List Int) (z30 : Bool) (l31 : List Int) (x32 x33 x34 x35 x36 : Int) : lp k spec_l18Macro [] fu 8 (n + 1) (qs3 x0 x1 x2 x3 x4 x5 x6 x7 x8 x9 x10 z11 l12 z13 l14 z15 l16 z17 l18 x19 x20 x21 x22 x23 z24 l25 z26 l27 z28 l29 z30 l31 x32 x33 x34 x35 x36) =
 cond (decide (x1 < (16 : Int)))
 ((go k spec_l11Step [(.agg [(.int .i64 (x32)), (.arr false (z24) (.r3 (l25))), (.arr false (z26) (.ints .i64 (l27))), (.arr false (z28) (.ints .i64 (l29))), (.arr false (z30) (.ints .i64 (l31)))]), (.int .i64 (x1))]).bind fun r0 =>
 lp k spec_l18Macro [] fu 8 n (qs3 x0 (IntKind.wrap .i64 (x1 + (1 : Int))) x2 x3 x4 x5 x6 x7 x8 x9 x10 z11 l12 z13 l14 z15 l16 z17 l18 x19 x20 x21 x22 x23 (D.nil (D.cell 1 (nth r0 0))) (D.r3 (D.cell 1 (nth r0 0))) (D.nil (D.cell 2 (nth r0 0))) (D.ints (D.cell 2 (nth r0 0))) (D.nil (D.cell 3 (nth r0 0))) (D.ints (D.cell 3 (nth r0 0))) (D.nil (D.cell 4 (nth r0 0))) (D.ints (D.cell 4 (nth r0 0))) (D.toInt (D.cell 0 (nth r0 0))) x33 x34 x35 x36))
 (cond (decide ((0 : Int) < x10))
 (cond (!decide (x10 = (0 : Int)))
 (cond (decide (Int.tmod (IntKind.wrap .i64 (x0 + (1 : Int))) x10 = (0 : Int)))
 ((go k spec_l17Adapt [(.agg [(.int .i64 (x32)), (.arr false (z24) (.r3 (l25))), (.arr false (z26) (.ints .i64 (l27))), (.arr false (z28) (.ints .i64 (l29))), (.arr false (z30) (.ints .i64 (l31)))]), (.int .i64 (x8)), (.int .i64 (x9))]).bind fun r1 =>
 some [(.agg [(.int .i64 (D.toInt (D.cell 0 (nth r1 0)))), (.arr true (D.nil (D.cell 1 (nth r1 0))) (.r3 (D.r3 (D.cell 1 (nth r1 0))))), (.arr true (D.nil (D.cell 2 (nth r1 0))) (.ints .i64 (D.ints (D.cell 2 (nth r1 0))))), (.arr true (D.nil (D.cell 3 (nth r1 0))) (.ints .i64 (D.ints (D.cell 3 (nth r1 0))))), (.arr true (D.nil (D.cell 4 (nth r1 0))) (.ints .i64 (D.ints (D.cell 4 (nth r1 0)))))]), (.agg [(.int .i64 (x33)), (.int .i64 (x34)), (.int .i64 (x35)), (.int .i64 (x36))])])
 (some [(.agg [(.int .i64 (x32)), (.arr true (z24) (.r3 (l25))), (.arr true (z26) (.ints .i64 (l27))), (.arr true (z28) (.ints .i64 (l29))), (.arr true (z30) (.ints .i64 (l31)))]), (.agg [(.int .i64 (x33)), (.int .i64 (x34)), (.int .i64 (x35)), (.int .i64 (x36))])]))
 (none))
 (some [(.agg [(.int .i64 (x32)), (.arr true (z24) (.r3 (l25))), (.arr true (z26) (.ints .i64 (l27))), (.arr true (z28) (.ints .i64 (l29))), (.arr true (z30) (.ints .i64 (l31)))]), (.agg [(.int .i64 (x33)), (.int .i64 (x34)), (.int .i64 (x35)), (.int .i64 (x36))])])) := by kernel_rfl

end Go.Proofs.YtoldpdhhfmlckaaGreat
end
section
namespace Go.Proofs.YtoldpdhhfmlckaaGreat
open Go.Ev
set_option maxRecDepth 20000
theorem qq0 (o : Bool) (d0 : D) (l : List D) : (D.ptr o (d0 :: l)).cell 0 = d0 := Eq.trans rfl rfl
theorem qq1 (o : Bool) (d0 d1 : D) (l : List D) : (D.ptr o (d0 :: d1 :: l)).cell 1 = d1 := Eq.trans rfl rfl
theorem qq2 (o : Bool) (d0 d1 d2 : D) (l : List D) : (D.ptr o (d0 :: d1 :: d2 :: l)).cell 2 = d2 := Eq.trans rfl rfl
theorem qq3 (o : Bool) (d0 d1 d2 d3 : D) (l : List D) : (D.ptr o (d0 :: d1 :: d2 :: d3 :: l)).cell 3 = d3 := Eq.trans rfl rfl
theorem qq4 (o : Bool) (d0 d1 d2 d3 d4 : D) (l : List D) : (D.ptr o (d0 :: d1 :: d2 :: d3 :: d4 :: l)).cell 4 = d4 := Eq.trans rfl rfl
def upto (L i : Nat) (f g : Nat → Int) : List Int := tab L (fun j => if j < i then f j else g j)
theorem qvh (L i : Nat) (f g : Nat → Int) : (upto L i f g).length = L := qum _ _
theorem qvg {L i : Nat} {f g : Nat → Int} (h : i < L) : (upto L i f g).getD i 0 = g i := by
  unfold upto; rw [qul h, if_neg (by omega)]
theorem qvi (L i : Nat) (f g : Nat → Int) (v : Int) (hv : v = f i) : (upto L i f g).set i v = upto L (i + 1) f g := by
  unfold upto
  rw [qup]
  refine quk fun j hj => ?_
  by_cases e : j = i
  · subst e; rw [if_pos rfl, if_pos (by omega), hv]
  · rw [if_neg e]
    by_cases e2 : j < i
    · rw [if_pos e2, if_pos (by omega)]
    · rw [if_neg e2, if_neg (by omega)]
theorem qvj (m : List Int) (L : Nat) (h : m.length = L) (f : Nat → Int) : upto L 0 f (fun j => m.getD j 0) = m := by
  subst h
  refine Eq.trans (quk fun j hj => ?_) (qun m).symm
  rw [if_neg (by omega)]
theorem qvf (L : Nat) (f g : Nat → Int) : upto L L f g = tab L f := quk fun j hj => if_pos hj
theorem quv {a : Int} (ha : 0 ≤ a ∧ a ≤ 10000) (l : List Cell) (i : Nat) : (0 ≤ a * qvl (l.getD i zz3).2.1 ∧ a * qvl (l.getD i zz3).2.1 ≤ 160000) ∧ Int.tdiv (a * qvl (l.getD i zz3).2.1) 16 = part a l i := by
  have w := qvn (l.getD i zz3).2.1
  have h1 := Int.mul_nonneg ha.1 w.1
  have h2 : a * qvl (l.getD i zz3).2.1 ≤ a * 16 := Int.mul_le_mul_of_nonneg_left w.2 ha.1
  exact ⟨⟨h1, by omega⟩, Int.tdiv_eq_ediv_of_nonneg h1⟩
theorem qcv (k : Nat) (hk : 2000000 ≤ k) (z1 z2 z3 z4 : Bool) (r : Int) (l : List Cell) (m t b : List Int) (a : Int) (ha : 0 ≤ a ∧ a ≤ 10000) (i : Nat) (hi : i < l.length) (hl : l.length ≤ 128) :
    go (k + 4) impl_State_partOf [.agg [.int .i64 (r), .arr false (z1) (.r3 (l)), .arr false (z2) (.ints .i64 (m)), .arr false (z3) (.ints .i64 (t)), .arr false (z4) (.ints .i64 (b))], .int .i64 a, .int .i64 (i : Int)] = some [.int .i64 (part a l i)] := by
  rw [qhu]
  have d := quv ha l i; have p := qqk ha l i
  have e := d.2
  simp (disch := omega) only [dT, nI, Bool.and_true, Int.toNat_natCast, qb0, qa6, nth0, qu2, qvt, e, qgc]
theorem qe2 (k : Nat) (hk : 2000000 ≤ k) (l : List Cell) (a : Int) (ha : 0 ≤ a ∧ a ≤ 10000) (i : Nat) :
    go (k + 3) spec_l14Part [.int .i64 a, .int .i64 (l.getD i zz3).2.1] = some [.int .i64 (part a l i)] := by
  rw [qj9]
  have d := quv ha l i; have p := qqk ha l i
  have e := d.2
  simp (disch := omega) only [qd4, qa6, nth0, qu2, qvt, e]
theorem qud {x : List Int} (h : ∀ v ∈ x, 0 ≤ v ∧ v ≤ 1000000000000) (n : Nat) : qt9 (fun j => x.getD j 0) n ≤ isum x := by
  rw [qlp x]
  have nn : ∀ j, 0 ≤ x.getD j 0 := fun j => by
    by_cases g : j < x.length
    · exact (h _ (qk1 g 0)).1
    · rw [qk0 (by omega)]; exact Int.le_refl 0
  have up : ∀ d, qt9 (fun j => x.getD j 0) n ≤ qt9 (fun j => x.getD j 0) (n + d) := by
    intro d
    induction d with
    | zero => exact Int.le_refl _
    | succ d ih => have := nn (n + d); rw [show n + (d + 1) = (n + d) + 1 from rfl, qt9]; omega
  by_cases g : n ≤ x.length
  · have := up (x.length - n)
    rwa [show n + (x.length - n) = x.length by omega] at this
  · have hi : ∀ d, qt9 (fun j => x.getD j 0) (x.length + d) = qt9 (fun j => x.getD j 0) x.length := by
      intro d
      induction d with
      | zero => rfl
      | succ d ih => rw [show x.length + (d + 1) = (x.length + d) + 1 from rfl, qt9, ih, qk0 (by omega)]; omega
    have := hi (n - x.length)
    rw [show x.length + (n - x.length) = n by omega] at this
    rw [this]; exact Int.le_refl _
abbrev raF (a : Int) (l : List Cell) (m : List Int) (j : Nat) : Int := m.getD j 0 + part a l j
theorem qn7 (k : Nat) (hk : 2000000 ≤ k) (fu : List (Nat × Nat)) (a0 : Int) (a1z : Bool) (a1 : List Cell) (a2z : Bool) (a2 : List Int) (a3z : Bool) (a3 : List Int) (a4z : Bool) (a4 : List Int) (z1 z2 z3 z4 : Bool) (r : Int) (l : List Cell) (m t b : List Int) (a tot : Int) (ha : 0 ≤ a ∧ a ≤ 10000) (F : StF r l m t b) : ∀ (N i : Nat), i ≤ l.length → l.length - i < N →
    lp (k + 4) impl_State_rain [(.ptr true [(.int .i64 (a0)), (.arr true (a1z) (.r3 (a1))), (.arr true (a2z) (.ints .i64 (a2))), (.arr true (a3z) (.ints .i64 (a3))), (.arr true (a4z) (.ints .i64 (a4)))])] fu 10 (N) (qr6 a tot (l.length : Int) (i : Int) z1 l z2 (upto l.length i (raF a l m) (fun j => m.getD j 0)) z3 t z4 b r 0 0 0 0) = some [.agg [.int .i64 tot, .int .i64 0, .int .i64 0, .int .i64 0], .ptr true [.int .i64 (r), .arr true (z1) (.r3 (l)), .arr true (z2) (.ints .i64 (tab l.length (raF a l m))), .arr true (z3) (.ints .i64 (t)), .arr true (z4) (.ints .i64 (b))]]
  | 0, i, hi, hN => by omega
  | N + 1, i, hi, hN => by
    rw [qmc]
    have L := F.len; have f := F.at i; have p := qqk ha l i
    by_cases g : i < l.length
    · have IH := qn7 k hk fu a0 a1z a1 a2z a2 a3z a3 a4z a4 z1 z2 z3 z4 r l m t b a tot ha F N (i + 1) (by omega) (by omega)
      have es : (upto l.length i (raF a l m) (fun j => m.getD j 0)).set i (m.getD i 0 + part a l i) = upto l.length (i + 1) (raF a l m) (fun j => m.getD j 0) := qvi _ _ _ _ _ rfl
      have eg : (upto l.length i (raF a l m) (fun j => m.getD j 0)).getD i 0 = m.getD i 0 := qvg g
      simp (disch := omega) only [dT, nI, qvh, Bool.and_true, qcv, qfg, qvt, Int.toNat_natCast, eg, qgc, qa6, nth0, qu2, es, IH]
    · have : i = l.length := by omega
      subst this
      simp (disch := omega) only [dF, dT, nI, qvf, Bool.true_and, qfg, qvt, Int.toNat_natCast, qga]
theorem qn8 (k : Nat) (hk : 2000000 ≤ k) (fu : List (Nat × Nat)) (a0 : Int) (a1z : Bool) (a1 : List Cell) (a2z : Bool) (a2 : List Int) (a3z : Bool) (a3 : List Int) (a4z : Bool) (a4 : List Int) (z1 z2 z3 z4 : Bool) (r : Int) (l : List Cell) (m t b : List Int) (a : Int) (ha : 0 ≤ a ∧ a ≤ 10000) (F : StF r l m t b) : ∀ (N i : Nat), i ≤ l.length → l.length - i < N →
    lp (k + 4) impl_State_rain [(.ptr true [(.int .i64 (a0)), (.arr true (a1z) (.r3 (a1))), (.arr true (a2z) (.ints .i64 (a2))), (.arr true (a3z) (.ints .i64 (a3))), (.arr true (a4z) (.ints .i64 (a4)))])] fu 3 (N) (qr7 a (qt9 (part a l) i) (l.length : Int) (i : Int) z1 l z2 m z3 t z4 b r 0 0 0 0) = some [.agg [.int .i64 (raS a l (m, t)).2.mi, .int .i64 0, .int .i64 0, .int .i64 0], .ptr true [.int .i64 (r), .arr true (z1) (.r3 (l)), .arr true (z2) (.ints .i64 ((raS a l (m, t)).1.1)), .arr true (z3) (.ints .i64 (t)), .arr true (z4) (.ints .i64 (b))]]
  | 0, i, hi, hN => by omega
  | N + 1, i, hi, hN => by
    rw [qmd]
    have L := F.len; have p := qqk ha l i; have ps := qql ha l i; have ml := F.ml; have ms := F.msum
    by_cases g : i < l.length
    · have IH := qn8 k hk fu a0 a1z a1 a2z a2 a3z a3 a4z a4 z1 z2 z3 z4 r l m t b a ha F N (i + 1) (by omega) (by omega)
      rw [show qt9 (part a l) (i + 1) = qt9 (part a l) i + part a l i from rfl] at IH
      simp (disch := omega) only [dT, qcv, qfg, qvt, qa6, nth0, qu2, IH, nI, qgc]
    · have : i = l.length := by omega
      subst this
      have e10 := qn7 k hk fu a0 a1z a1 a2z a2 a3z a3 a4z a4 z1 z2 z3 z4 r l m t b a (qt9 (part a l) l.length) ha F (k + 4) 0 (by omega) (by omega)
      rw [qvj m l.length ml] at e10
      rw [show ((0 : Nat) : Int) = 0 from rfl] at e10
      have es := qc4 (k + 3) (by omega) z2 m (by omega) F.mmem
      unfold raS
      by_cases h : isum m + qt9 (part a l) l.length ≤ 10000000
      · rw [if_pos h]
        simp (disch := omega) only [dF, qfg, qvt, es, nI, ml, qa6, nth0, qu2, qga]
        exact e10
      · rw [if_neg h]
        simp (disch := omega) only [dF, qfg, qvt, es, nI, qa6, nth0, qu2, dT, qgc, qga]
theorem qqw (a : Int) (l : List Cell) (s : S2) : (raS a l s).1.2 = s.2 := by unfold raS; split <;> rfl
theorem qqx (a : Int) (l : List Cell) (s : S2) : (raS a l s).2.mo = 0 ∧ (raS a l s).2.ti = 0 ∧ (raS a l s).2.ou = 0 := by unfold raS; split <;> exact ⟨rfl, rfl, rfl⟩
theorem qcw (k : Nat) (hk : 2000000 ≤ k) (z1 z2 z3 z4 : Bool) (r : Int) (l : List Cell) (m t b : List Int) (a : Int) (ha : 0 ≤ a ∧ a ≤ 10000) (F : StF r l m t b) :
    go (k + 5) impl_State_rain [.ptr true [.int .i64 (r), .arr true (z1) (.r3 (l)), .arr true (z2) (.ints .i64 (m)), .arr true (z3) (.ints .i64 (t)), .arr true (z4) (.ints .i64 (b))], .int .i64 a] = some [.agg [.int .i64 (raS a l (m, t)).2.mi, .int .i64 0, .int .i64 0, .int .i64 0], .ptr true [.int .i64 (r), .arr true (z1) (.r3 (l)), .arr true (z2) (.ints .i64 ((raS a l (m, t)).1.1)), .arr true (z3) (.ints .i64 (t)), .arr true (z4) (.ints .i64 (b))]] := by
  rw [qhv]
  have ml := F.ml
  have e := qn8 k hk [] r z1 l z2 m z3 t z4 b z1 z2 z3 z4 r l m t b a ha F (k + 4) 0 (by omega) (by have := F.len; omega)
  rw [show ((0 : Nat) : Int) = 0 from rfl, show qt9 (part a l) 0 = 0 from rfl] at e
  simp (disch := omega) only [nI, ml]
  exact e
theorem qo6 (k : Nat) (hk : 2000000 ≤ k) (fu : List (Nat × Nat)) (z1 z2 z3 z4 : Bool) (r : Int) (l : List Cell) (m t b : List Int) (a : Int) (ha : 0 ≤ a ∧ a ≤ 10000) (F : StF r l m t b) (y1 y2 y3 y4 : Bool) (q1 : List Cell) (q2 q3 q4 : List Int) (p0 p1 p2 p3 p4 : Int) (v1 v2 v3 v4 : Bool) : ∀ (N i : Nat), i ≤ l.length → l.length - i < N →
    lp (k + 3) spec_l14Rain [] fu 4 (N) (qsx a (qt9 (part a l) i) (i : Int) z1 l z2 m z3 t z4 b r y1 q1 y2 q2 y3 q3 y4 q4 p0 p1 p2 p3 p4 false l false (upto l.length i (raF a l m) (fun j => m.getD j 0)) false t false b r) = some [.agg [.int .i64 (r), .arr true (false) (.r3 (l)), .arr true (false) (.ints .i64 ((raS a l (m, t)).1.1)), .arr true (false) (.ints .i64 (t)), .arr true (false) (.ints .i64 (b))], .agg [.int .i64 (raS a l (m, t)).2.mi, .int .i64 0, .int .i64 0, .int .i64 0]]
  | 0, i, hi, hN => by omega
  | N + 1, i, hi, hN => by
    rw [qm3]
    have L := F.len; have p := qqk ha l i; have ps := qql ha l i; have ml := F.ml; have ms := F.msum; have f := F.at i; have tl := F.tl; have bl := F.bl; have rr := F.rr
    by_cases g : i < l.length
    · have IH := qo6 k hk fu z1 z2 z3 z4 r l m t b a ha F y1 y2 y3 y4 q1 q2 q3 q4 p0 p1 p2 p3 p4 v1 v2 v3 v4 N (i + 1) (by omega) (by omega)
      rw [show qt9 (part a l) (i + 1) = qt9 (part a l) i + part a l i from rfl] at IH
      have es : (upto l.length i (raF a l m) (fun j => m.getD j 0)).set i (m.getD i 0 + part a l i) = upto l.length (i + 1) (raF a l m) (fun j => m.getD j 0) := qvi _ _ _ _ _ rfl
      have eg : (upto l.length i (raF a l m) (fun j => m.getD j 0)).getD i 0 = m.getD i 0 := qvg g
      simp (disch := omega) only [nI, dT, Bool.and_true, Int.toNat_natCast, qe2, qvh, qfg, qvt, eg, qgc, qa6, nth0, qu2, es, IH]
    · have : i = l.length := by omega
      subst this
      have e1 : isum (tab l.length (raF a l m)) = isum m + qt9 (part a l) l.length := by rw [qlq, qua, qlp m, ml]
      have mem : ∀ x ∈ tab l.length (raF a l m), 0 ≤ x ∧ x ≤ 1000000000000 := by
        intro x hx
        simp only [tab, List.mem_map] at hx
        obtain ⟨j, _, rfl⟩ := hx
        have f := F.at j; have p := qqk ha l j
        show 0 ≤ m.getD j 0 + part a l j ∧ m.getD j 0 + part a l j ≤ _
        omega
      have es := qet (k + 2) (by omega) false (tab l.length (raF a l m)) (by rw [qum]; omega) mem
      unfold raS
      by_cases h : isum m + qt9 (part a l) l.length ≤ 10000000
      · rw [if_pos h]
        simp (disch := omega) only [nI, dF, dT, Bool.and_false, Int.toNat_natCast, qvf, Bool.true_and, qfg, qvt, qga, es, e1, qa6, nth0, qu2]
      · rw [if_neg h]
        simp (disch := omega) only [nI, dF, dT, Bool.and_false, Int.toNat_natCast, qvf, Bool.true_and, qfg, qvt, qga, es, e1, qer, qa6, nth0, qfi, qu2, qfj, qp3, qqu, qfu, qlg, qfw, qfx, qgc]
theorem qfc (k : Nat) (hk : 2000000 ≤ k) (z1 z2 z3 z4 : Bool) (r : Int) (l : List Cell) (m t b : List Int) (a : Int) (ha : 0 ≤ a ∧ a ≤ 10000) (F : StF r l m t b) :
    go (k + 4) spec_l14Rain [.agg [.int .i64 (r), .arr false (z1) (.r3 (l)), .arr false (z2) (.ints .i64 (m)), .arr false (z3) (.ints .i64 (t)), .arr false (z4) (.ints .i64 (b))], .int .i64 a] = some [.agg [.int .i64 (r), .arr true (false) (.r3 (l)), .arr true (false) (.ints .i64 ((raS a l (m, t)).1.1)), .arr true (false) (.ints .i64 (t)), .arr true (false) (.ints .i64 (b))], .agg [.int .i64 (raS a l (m, t)).2.mi, .int .i64 0, .int .i64 0, .int .i64 0]] := by
  rw [qka]
  have L := F.len; have ml := F.ml; have tl := F.tl; have bl := F.bl; have rr := F.rr
  have e := qo6 k hk [] z1 z2 z3 z4 r l m t b a ha F true true true true [] [] [] [] 0 0 0 0 0 true true true true (k + 3) 0 (by omega) (by omega)
  rw [show ((0 : Nat) : Int) = 0 from rfl, show qt9 (part a l) 0 = 0 from rfl, qvj m l.length ml] at e
  simp (disch := omega) only [qer, qa6, nth0, qfj, qp3, qqu, qfu, qlg, qfw, qfx, qfi, qu2]
  exact e
end Go.Proofs.YtoldpdhhfmlckaaGreat
end
section
namespace Go.Proofs.YtoldpdhhfmlckaaGreat
open Go.Ev
set_option maxRecDepth 20000
abbrev soF (a : Int) (l : List Cell) (m : List Int) (j : Nat) : Int := m.getD j 0 - soX a l m j
abbrev soG (a : Int) (l : List Cell) (m t : List Int) (j : Nat) : Int := t.getD j 0 - soY a l m t j
theorem qn9 (k : Nat) (hk : 2000000 ≤ k) (fu : List (Nat × Nat)) (a0 : Int) (a1z : Bool) (a1 : List Cell) (a2z : Bool) (a2 : List Int) (a3z : Bool) (a3 : List Int) (a4z : Bool) (a4 : List Int) (z1 z2 z3 z4 : Bool) (r : Int) (l : List Cell) (m t b : List Int) (a : Int) (ha : 0 ≤ a ∧ a ≤ 10000) (F : StF r l m t b) (p0 p1 p2 p3 : Int) : ∀ (N i : Nat), i ≤ l.length → l.length - i < N →
    lp (k + 4) impl_State_soak [(.ptr true [(.int .i64 (a0)), (.arr true (a1z) (.r3 (a1))), (.arr true (a2z) (.ints .i64 (a2))), (.arr true (a3z) (.ints .i64 (a3))), (.arr true (a4z) (.ints .i64 (a4)))])] fu 3 (N) (qr8 a (l.length : Int) (i : Int) z1 l z2 (upto l.length i (soF a l m) (fun j => m.getD j 0)) z3 (upto l.length i (soG a l m t) (fun j => t.getD j 0)) z4 b r p0 p1 p2 p3 0 (qt9 (soX a l m) i) 0 (qt9 (soY a l m t) i)) = some [.agg [.int .i64 0, .int .i64 (qt9 (soX a l m) l.length), .int .i64 0, .int .i64 (qt9 (soY a l m t) l.length)], .ptr true [.int .i64 (r), .arr true (z1) (.r3 (l)), .arr true (z2) (.ints .i64 (tab l.length (soF a l m))), .arr true (z3) (.ints .i64 (tab l.length (soG a l m t))), .arr true (z4) (.ints .i64 (b))]]
  | 0, i, hi, hN => by omega
  | N + 1, i, hi, hN => by
    rw [qme]
    have L := F.len; have f := F.at i; have p := qqk ha l i
    by_cases g : i < l.length
    · have IH := qn9 k hk fu a0 a1z a1 a2z a2 a3z a3 a4z a4 z1 z2 z3 z4 r l m t b a ha F p0 p1 p2 p3 N (i + 1) (by omega) (by omega)
      rw [show qt9 (soX a l m) (i + 1) = qt9 (soX a l m) i + soX a l m i from rfl, show qt9 (soY a l m t) (i + 1) = qt9 (soY a l m t) i + soY a l m t i from rfl] at IH
      have s1 : (upto l.length i (soF a l m) (fun j => m.getD j 0)).set i (m.getD i 0 - soX a l m i) = upto l.length (i + 1) (soF a l m) (fun j => m.getD j 0) := qvi _ _ _ _ _ rfl
      have s2 : (upto l.length i (soG a l m t) (fun j => t.getD j 0)).set i (t.getD i 0 - soY a l m t i) = upto l.length (i + 1) (soG a l m t) (fun j => t.getD j 0) := qvi _ _ _ _ _ rfl
      have g1 : (upto l.length i (soF a l m) (fun j => m.getD j 0)).getD i 0 = m.getD i 0 := qvg g
      have g2 : (upto l.length i (soG a l m t) (fun j => t.getD j 0)).getD i 0 = t.getD i 0 := qvg g
      have x1 := qtm F ha i; have y1 := (qtn F ha i).1
      have q := qto F ha i
      have q1 := qto F ha l.length
      have ms := F.msum; have ts := F.tle
      have d1 := qud F.mmem i; have d2 := qud F.tmem i
      have ex : min (part a l i) (m.getD i 0) = soX a l m i := Int.min_comm _ _
      have ey : qtc (t.getD i 0) (soX a l m i) (m.getD i 0) = soY a l m t i := rfl
      simp (disch := omega) only [dT, nI, qvh, Bool.and_true, qcv, Int.toNat_natCast, g2, g1, imin, qbw, qfg, qvt, qgc, qa6, nth0, qu2, ex, s1, ey, s2, IH]
    · have : i = l.length := by omega
      subst this
      simp (disch := omega) only [dF, dT, nI, qvf, Bool.true_and, Int.toNat_natCast, imin, qfg, qvt, qga]
theorem qc3 (k : Nat) (hk : 2000000 ≤ k) (z1 z2 z3 z4 : Bool) (r : Int) (l : List Cell) (m t b : List Int) (a : Int) (ha : 0 ≤ a ∧ a ≤ 10000) (F : StF r l m t b) :
    go (k + 5) impl_State_soak [.ptr true [.int .i64 (r), .arr true (z1) (.r3 (l)), .arr true (z2) (.ints .i64 (m)), .arr true (z3) (.ints .i64 (t)), .arr true (z4) (.ints .i64 (b))], .int .i64 a] = some [.agg [.int .i64 0, .int .i64 (soS a l (m, t)).2.mo, .int .i64 0, .int .i64 (soS a l (m, t)).2.ou], .ptr true [.int .i64 (r), .arr true (z1) (.r3 (l)), .arr true (z2) (.ints .i64 ((soS a l (m, t)).1.1)), .arr true (z3) (.ints .i64 ((soS a l (m, t)).1.2)), .arr true (z4) (.ints .i64 (b))]] := by
  rw [qh0]
  have ml := F.ml; have tl := F.tl
  have e := qn9 k hk [] r z1 l z2 m z3 t z4 b z1 z2 z3 z4 r l m t b a ha F 0 0 0 0 (k + 4) 0 (by omega) (by have := F.len; omega)
  rw [show ((0 : Nat) : Int) = 0 from rfl, show qt9 (soX a l m) 0 = 0 from rfl, show qt9 (soY a l m t) 0 = 0 from rfl, qvj m l.length ml, qvj t l.length tl] at e
  simp (disch := omega) only [nI, ml]
  exact e
theorem qo7 (k : Nat) (hk : 2000000 ≤ k) (fu : List (Nat × Nat)) (z1 z2 z3 z4 : Bool) (r : Int) (l : List Cell) (m t b : List Int) (a : Int) (ha : 0 ≤ a ∧ a ≤ 10000) (F : StF r l m t b) (y1 y2 y3 y4 : Bool) (q1 : List Cell) (q2 q3 q4 : List Int) (p0 p1 p2 p3 p4 : Int) : ∀ (N i : Nat), i ≤ l.length → l.length - i < N →
    lp (k + 3) spec_l14Soak [] fu 4 (N) (qsy a (i : Int) z1 l z2 m z3 t z4 b r y1 q1 y2 q2 y3 q3 y4 q4 p0 p1 p2 p3 p4 false l false (upto l.length i (soF a l m) (fun j => m.getD j 0)) false (upto l.length i (soG a l m t) (fun j => t.getD j 0)) false b r 0 (qt9 (soX a l m) i) 0 (qt9 (soY a l m t) i)) = some [.agg [.int .i64 (r), .arr true (false) (.r3 (l)), .arr true (false) (.ints .i64 (tab l.length (soF a l m))), .arr true (false) (.ints .i64 (tab l.length (soG a l m t))), .arr true (false) (.ints .i64 (b))], .agg [.int .i64 0, .int .i64 (qt9 (soX a l m) l.length), .int .i64 0, .int .i64 (qt9 (soY a l m t) l.length)]]
  | 0, i, hi, hN => by omega
  | N + 1, i, hi, hN => by
    rw [qm4]
    have L := F.len; have f := F.at i; have p := qqk ha l i; have ml := F.ml; have tl := F.tl
    by_cases g : i < l.length
    · have IH := qo7 k hk fu z1 z2 z3 z4 r l m t b a ha F y1 y2 y3 y4 q1 q2 q3 q4 p0 p1 p2 p3 p4 N (i + 1) (by omega) (by omega)
      rw [show qt9 (soX a l m) (i + 1) = qt9 (soX a l m) i + soX a l m i from rfl, show qt9 (soY a l m t) (i + 1) = qt9 (soY a l m t) i + soY a l m t i from rfl] at IH
      have s1 : (upto l.length i (soF a l m) (fun j => m.getD j 0)).set i (m.getD i 0 - soX a l m i) = upto l.length (i + 1) (soF a l m) (fun j => m.getD j 0) := qvi _ _ _ _ _ rfl
      have s2 : (upto l.length i (soG a l m t) (fun j => t.getD j 0)).set i (t.getD i 0 - soY a l m t i) = upto l.length (i + 1) (soG a l m t) (fun j => t.getD j 0) := qvi _ _ _ _ _ rfl
      have g1 : (upto l.length i (soF a l m) (fun j => m.getD j 0)).getD i 0 = m.getD i 0 := qvg g
      have g2 : (upto l.length i (soG a l m t) (fun j => t.getD j 0)).getD i 0 = t.getD i 0 := qvg g
      have x1 := qtm F ha i; have y1 := (qtn F ha i).1
      have q := qto F ha i
      have ms := F.msum; have ts := F.tle
      have d1 := qud F.mmem i; have d2 := qud F.tmem i
      have ex : min (m.getD i 0) (part a l i) = soX a l m i := rfl
      have ey : qtc (t.getD i 0) (soX a l m i) (m.getD i 0) = soY a l m t i := rfl
      simp (disch := omega) only [nI, dT, Bool.and_true, Int.toNat_natCast, qe2, imin, qd0, qvh, qfg, qvt, g1, g2, qgc, qa6, nth0, qu2, ex, s1, ey, s2, IH]
    · have : i = l.length := by omega
      subst this
      simp (disch := omega) only [nI, dF, dT, Bool.and_false, Int.toNat_natCast, imin, qvf, Bool.true_and, qfg, qvt, qga]
theorem qfe (k : Nat) (hk : 2000000 ≤ k) (z1 z2 z3 z4 : Bool) (r : Int) (l : List Cell) (m t b : List Int) (a : Int) (ha : 0 ≤ a ∧ a ≤ 10000) (F : StF r l m t b) :
    go (k + 4) spec_l14Soak [.agg [.int .i64 (r), .arr false (z1) (.r3 (l)), .arr false (z2) (.ints .i64 (m)), .arr false (z3) (.ints .i64 (t)), .arr false (z4) (.ints .i64 (b))], .int .i64 a] = some [.agg [.int .i64 (r), .arr true (false) (.r3 (l)), .arr true (false) (.ints .i64 ((soS a l (m, t)).1.1)), .arr true (false) (.ints .i64 ((soS a l (m, t)).1.2)), .arr true (false) (.ints .i64 (b))], .agg [.int .i64 0, .int .i64 (soS a l (m, t)).2.mo, .int .i64 0, .int .i64 (soS a l (m, t)).2.ou]] := by
  rw [qkb]
  have L := F.len; have ml := F.ml; have tl := F.tl; have bl := F.bl; have rr := F.rr
  have e := qo7 k hk [] z1 z2 z3 z4 r l m t b a ha F true true true true [] [] [] [] 0 0 0 0 0 (k + 3) 0 (by omega) (by omega)
  rw [show ((0 : Nat) : Int) = 0 from rfl, show qt9 (soX a l m) 0 = 0 from rfl, show qt9 (soY a l m t) 0 = 0 from rfl, qvj m l.length ml, qvj t l.length tl] at e
  simp (disch := omega) only [qer, qa6, nth0, qfj, qp3, qqu, qfu, qlg, qfw, qfx, qfi, qu2]
  exact e
abbrev deF (a : Int) (t : List Int) (j : Nat) : Int := t.getD j 0 - deX a t j
theorem qut {r : Int} {l : List Cell} {m t b : List Int} (F : StF r l m t b) {a : Int} (ha : 0 ≤ a ∧ a ≤ 1000) (i : Nat) : (0 ≤ t.getD i 0 * a ∧ t.getD i 0 * a ≤ 10000000000000) ∧ Int.tdiv (t.getD i 0 * a) 1000 = deX a t i := by
  have f := F.at i
  have h1 := Int.mul_nonneg f.2.2.1 ha.1
  have h2 : t.getD i 0 * a ≤ t.getD i 0 * 1000 := Int.mul_le_mul_of_nonneg_left ha.2 f.2.2.1
  exact ⟨⟨h1, by omega⟩, Int.tdiv_eq_ediv_of_nonneg h1⟩
theorem qgi {r : Int} {l : List Cell} {m t b : List Int} (F : StF r l m t b) {a : Int} (ha : 0 ≤ a ∧ a ≤ 1000) (n : Nat) : 0 ≤ qt9 (deX a t) n ∧ qt9 (deX a t) n ≤ qt9 (fun j => t.getD j 0) n :=
  ⟨que n fun j _ => (qgh F ha j).1, quc n fun j _ => (qgh F ha j).2⟩
theorem qn4 (k : Nat) (hk : 2000000 ≤ k) (fu : List (Nat × Nat)) (a0 : Int) (a1z : Bool) (a1 : List Cell) (a2z : Bool) (a2 : List Int) (a3z : Bool) (a3 : List Int) (a4z : Bool) (a4 : List Int) (z1 z2 z3 z4 : Bool) (r : Int) (l : List Cell) (m t b : List Int) (a : Int) (ha : 0 ≤ a ∧ a ≤ 1000) (F : StF r l m t b) (p0 p1 p2 p3 : Int) : ∀ (N i : Nat), i ≤ l.length → l.length - i < N →
    lp k impl_State_decay [(.ptr true [(.int .i64 (a0)), (.arr true (a1z) (.r3 (a1))), (.arr true (a2z) (.ints .i64 (a2))), (.arr true (a3z) (.ints .i64 (a3))), (.arr true (a4z) (.ints .i64 (a4)))])] fu 3 (N) (qrz a (l.length : Int) (i : Int) z1 l z2 m z3 (upto l.length i (deF a t) (fun j => t.getD j 0)) z4 b r p0 p1 p2 p3 0 0 0 (qt9 (deX a t) i)) = some [.agg [.int .i64 0, .int .i64 0, .int .i64 0, .int .i64 (qt9 (deX a t) l.length)], .ptr true [.int .i64 (r), .arr true (z1) (.r3 (l)), .arr true (z2) (.ints .i64 (m)), .arr true (z3) (.ints .i64 (tab l.length (deF a t))), .arr true (z4) (.ints .i64 (b))]]
  | 0, i, hi, hN => by omega
  | N + 1, i, hi, hN => by
    rw [ql5]
    have L := F.len; have f := F.at i; have d := qut F ha i
    by_cases g : i < l.length
    · have IH := qn4 k hk fu a0 a1z a1 a2z a2 a3z a3 a4z a4 z1 z2 z3 z4 r l m t b a ha F p0 p1 p2 p3 N (i + 1) (by omega) (by omega)
      rw [show qt9 (deX a t) (i + 1) = qt9 (deX a t) i + deX a t i from rfl] at IH
      have s2 : (upto l.length i (deF a t) (fun j => t.getD j 0)).set i (t.getD i 0 - deX a t i) = upto l.length (i + 1) (deF a t) (fun j => t.getD j 0) := qvi _ _ _ _ _ rfl
      have g2 : (upto l.length i (deF a t) (fun j => t.getD j 0)).getD i 0 = t.getD i 0 := qvg g
      have x1 := qgh F ha i; have q := qgi F ha i; have ts := F.tle; have d2 := qud F.tmem i
      have ed := d.2
      simp (disch := omega) only [dT, nI, qvh, Bool.and_true, qfg, qvt, Int.toNat_natCast, g2, ed, s2, IH, qgc]
    · have : i = l.length := by omega
      subst this
      simp (disch := omega) only [dF, dT, nI, qvf, Bool.true_and, qfg, qvt, Int.toNat_natCast, qga]
theorem qce (k : Nat) (hk : 2000000 ≤ k) (z1 z2 z3 z4 : Bool) (r : Int) (l : List Cell) (m t b : List Int) (a : Int) (ha : 0 ≤ a ∧ a ≤ 1000) (F : StF r l m t b) :
    go (k + 1) impl_State_decay [.ptr true [.int .i64 (r), .arr true (z1) (.r3 (l)), .arr true (z2) (.ints .i64 (m)), .arr true (z3) (.ints .i64 (t)), .arr true (z4) (.ints .i64 (b))], .int .i64 a] = some [.agg [.int .i64 0, .int .i64 0, .int .i64 0, .int .i64 (deS a l (m, t)).2.ou], .ptr true [.int .i64 (r), .arr true (z1) (.r3 (l)), .arr true (z2) (.ints .i64 (m)), .arr true (z3) (.ints .i64 ((deS a l (m, t)).1.2)), .arr true (z4) (.ints .i64 (b))]] := by
  rw [qhm]
  have ml := F.ml; have tl := F.tl
  have e := qn4 k hk [] r z1 l z2 m z3 t z4 b z1 z2 z3 z4 r l m t b a ha F 0 0 0 0 (k + 0) 0 (by omega) (by have := F.len; omega)
  rw [show ((0 : Nat) : Int) = 0 from rfl, show qt9 (deX a t) 0 = 0 from rfl, qvj t l.length tl] at e
  simp (disch := omega) only [nI, tl]
  exact e
theorem qox (k : Nat) (hk : 2000000 ≤ k) (fu : List (Nat × Nat)) (z1 z2 z3 z4 : Bool) (r : Int) (l : List Cell) (m t b : List Int) (a : Int) (ha : 0 ≤ a ∧ a ≤ 1000) (F : StF r l m t b) (y1 y2 y3 y4 : Bool) (q1 : List Cell) (q2 q3 q4 : List Int) (p0 p1 p2 p3 p4 : Int) : ∀ (N i : Nat), i ≤ l.length → l.length - i < N →
    lp (k + 2) spec_l15Decay [] fu 4 (N) (qsz a (i : Int) z1 l z2 m z3 t z4 b r y1 q1 y2 q2 y3 q3 y4 q4 p0 p1 p2 p3 p4 false l false m false (upto l.length i (deF a t) (fun j => t.getD j 0)) false b r 0 0 0 (qt9 (deX a t) i)) = some [.agg [.int .i64 (r), .arr true (false) (.r3 (l)), .arr true (false) (.ints .i64 (m)), .arr true (false) (.ints .i64 (tab l.length (deF a t))), .arr true (false) (.ints .i64 (b))], .agg [.int .i64 0, .int .i64 0, .int .i64 0, .int .i64 (qt9 (deX a t) l.length)]]
  | 0, i, hi, hN => by omega
  | N + 1, i, hi, hN => by
    rw [qm5]
    have L := F.len; have f := F.at i; have d := qut F ha i; have tl := F.tl
    by_cases g : i < l.length
    · have IH := qox k hk fu z1 z2 z3 z4 r l m t b a ha F y1 y2 y3 y4 q1 q2 q3 q4 p0 p1 p2 p3 p4 N (i + 1) (by omega) (by omega)
      rw [show qt9 (deX a t) (i + 1) = qt9 (deX a t) i + deX a t i from rfl] at IH
      have s2 : (upto l.length i (deF a t) (fun j => t.getD j 0)).set i (t.getD i 0 - deX a t i) = upto l.length (i + 1) (deF a t) (fun j => t.getD j 0) := qvi _ _ _ _ _ rfl
      have g2 : (upto l.length i (deF a t) (fun j => t.getD j 0)).getD i 0 = t.getD i 0 := qvg g
      have x1 := qgh F ha i; have q := qgi F ha i; have ts := F.tle; have d2 := qud F.tmem i
      have ed := d.2
      simp (disch := omega) only [nI, dT, Bool.and_true, qvh, qfg, qvt, Int.toNat_natCast, g2, ed, s2, IH, qgc]
    · have : i = l.length := by omega
      subst this
      simp (disch := omega) only [nI, dF, dT, Bool.and_false, qvf, Bool.true_and, qfg, qvt, Int.toNat_natCast, qga]
theorem qeb (k : Nat) (hk : 2000000 ≤ k) (z1 z2 z3 z4 : Bool) (r : Int) (l : List Cell) (m t b : List Int) (a : Int) (ha : 0 ≤ a ∧ a ≤ 1000) (F : StF r l m t b) :
    go (k + 3) spec_l15Decay [.agg [.int .i64 (r), .arr false (z1) (.r3 (l)), .arr false (z2) (.ints .i64 (m)), .arr false (z3) (.ints .i64 (t)), .arr false (z4) (.ints .i64 (b))], .int .i64 a] = some [.agg [.int .i64 (r), .arr true (false) (.r3 (l)), .arr true (false) (.ints .i64 (m)), .arr true (false) (.ints .i64 ((deS a l (m, t)).1.2)), .arr true (false) (.ints .i64 (b))], .agg [.int .i64 0, .int .i64 0, .int .i64 0, .int .i64 (deS a l (m, t)).2.ou]] := by
  rw [qkc]
  have L := F.len; have ml := F.ml; have tl := F.tl; have bl := F.bl; have rr := F.rr
  have e := qox k hk [] z1 z2 z3 z4 r l m t b a ha F true true true true [] [] [] [] 0 0 0 0 0 (k + 2) 0 (by omega) (by omega)
  rw [show ((0 : Nat) : Int) = 0 from rfl, show qt9 (deX a t) 0 = 0 from rfl, qvj t l.length tl] at e
  simp (disch := omega) only [qer, qa6, nth0, qfj, qp3, qqu, qfu, qlg, qfw, qfx, qfi, qu2]
  exact e
end Go.Proofs.YtoldpdhhfmlckaaGreat
end
section
namespace Go.Proofs.YtoldpdhhfmlckaaGreat
open Go.Ev
set_option maxRecDepth 20000
theorem tnz : Int.toNat 0 = 0 := Eq.trans rfl rfl
theorem qcz (k : Nat) (hk : 2000000 ≤ k) (z1 z2 z3 z4 : Bool) (r : Int) (l : List Cell) (m t b : List Int) (i : Nat) (x : Int) (d0 d1 d2 d3 : Int) (h1 : i < m.length) (h2 : i < t.length) (hl : m.length ≤ 1048576) (hx : 0 ≤ x ∧ x ≤ m.getD i 0) (hm : m.getD i 0 ≤ 10000000) (ht : 0 ≤ t.getD i 0 ∧ t.getD i 0 ≤ 10000000000) (hd : 0 ≤ d1 ∧ d1 ≤ 1000000000000) (hd3 : 0 ≤ d3 ∧ d3 ≤ 1000000000000) :
    go (k + 3) impl_State_remove [.ptr true [.int .i64 (r), .arr true (z1) (.r3 (l)), .arr true (z2) (.ints .i64 (m)), .arr true (z3) (.ints .i64 (t)), .arr true (z4) (.ints .i64 (b))], .int .i64 (i : Int), .int .i64 x, .ptr true [.int .i64 d0, .int .i64 d1, .int .i64 d2, .int .i64 d3]] =
      some [.ptr true [.int .i64 (r), .arr true (z1) (.r3 (l)), .arr true (z2) (.ints .i64 (m.set i (m.getD i 0 - x))), .arr true (z3) (.ints .i64 (t.set i (t.getD i 0 - qtc (t.getD i 0) x (m.getD i 0)))), .arr true (z4) (.ints .i64 (b))], .ptr true [.int .i64 d0, .int .i64 (d1 + x), .int .i64 d2, .int .i64 (d3 + qtc (t.getD i 0) x (m.getD i 0))]] := by
  rw [qhx]
  have s := qte (t.getD i 0) x (m.getD i 0)
  simp (disch := omega) only [dT, nI, Bool.and_true, Int.toNat_natCast, qbw, qvt, qgc, qa6, nth0, qu2]
theorem quu {x o : Int} (hx : 0 ≤ x ∧ x ≤ 10000000) (ho : 0 ≤ o ∧ o ≤ 250) : (0 ≤ x * o ∧ x * o ≤ 2500000000) ∧ Int.tdiv (x * o) 1000 = x * o / 1000 := by
  have h1 := Int.mul_nonneg hx.1 ho.1
  have h2 : x * o ≤ x * 250 := Int.mul_le_mul_of_nonneg_left ho.2 hx.1
  exact ⟨⟨h1, by omega⟩, Int.tdiv_eq_ediv_of_nonneg h1⟩
abbrev ldD (x : Ld) : D := .agg [.int .i64 x.mi, .int .i64 x.mo, .int .i64 x.ti, .int .i64 x.ou]
theorem qb8 (k : Nat) (hk : 2000000 ≤ k) (z1 z2 z3 z4 : Bool) (r : Int) (l : List Cell) (m t b : List Int) (F : StF r l m t b) (a c o : Int) (ha : 0 ≤ a ∧ a ≤ 10000) (hc : 0 ≤ c ∧ c ≤ 1000) (ho : 0 ≤ o ∧ o ≤ 250) :
    go (k + 4) impl_State_border [.ptr true [.int .i64 (r), .arr true (z1) (.r3 (l)), .arr true (z2) (.ints .i64 (m)), .arr true (z3) (.ints .i64 (t)), .arr true (z4) (.ints .i64 (b))], .agg [.int .i64 a, .int .i64 c, .int .i64 o]] =
      some [ldD (boS a c o (m, t)).2, .ptr true [.int .i64 (r), .arr true (z1) (.r3 (l)), .arr true (z2) (.ints .i64 ((boS a c o (m, t)).1.1)), .arr true (z3) (.ints .i64 ((boS a c o (m, t)).1.2)), .arr true (z4) (.ints .i64 (b))]] := by
  rw [qhk]
  have L := F.len; have ml := F.ml; have tl := F.tl
  have f := F.at (m.length - 1)
  have d := quu ⟨f.1, f.2.1⟩ ho
  have ed : Int.tdiv (m.getD (m.length - 1) 0 * o) 1000 = boX o m := d.2
  have G := qa8 F ho
  have bx := qba F ho; have bY := qbb F ho; have ip := qlf ha hc
  have eR := qcz k (by omega) z1 z2 z3 z4 r l m t b (m.length - 1) (boX o m) 0 0 0 0 (by omega) (by omega) (by omega) bx f.2.1 ⟨f.2.2.1, by omega⟩ (by omega) (by omega)
  rw [show qtc (t.getD (m.length - 1) 0) (boX o m) (m.getD (m.length - 1) 0) = boY o m t from rfl] at eR
  unfold boS
  change StF r l (m.set (m.length - 1) (m.getD (m.length - 1) 0 - boX o m)) (t.set (m.length - 1) (t.getD (m.length - 1) 0 - boY o m t)) b ∧ _ at G
  rw [show bo1 o (m, t) = (m.set (m.length - 1) (m.getD (m.length - 1) 0 - boX o m), t.set (m.length - 1) (t.getD (m.length - 1) 0 - boY o m t)) from rfl] at G ⊢
  generalize m.set (m.length - 1) (m.getD (m.length - 1) 0 - boX o m) = M at *
  generalize t.set (m.length - 1) (t.getD (m.length - 1) 0 - boY o m t) = T at *
  obtain ⟨G, g1, g2⟩ := G
  have Ml := G.ml; have Tl := G.tl; have Mf := G.at 0; have Ms := G.msum
  have eS := qc4 (k + 2) (by omega) z2 M (by omega) G.mmem
  by_cases h : isum M + a ≤ 10000000
  · rw [if_pos h]
    simp (disch := omega) only [nI, qff, qvt, dT, Bool.and_true, Int.toNat_natCast, ed, eR, Int.zero_add, Bool.true_and, tnz, qa6, nth0, qq2, qp3, qlg, eS, qq3, nth1, qq1, qu2, qq0, qqu, qq4, qgc]
    rfl
  · rw [if_neg h]
    simp (disch := omega) only [nI, qff, qvt, dT, Bool.and_true, Int.toNat_natCast, ed, eR, Int.zero_add, Bool.true_and, qa6, nth0, qq2, qp3, qlg, eS, qq3, nth1, qq1, qu2, qq0, qqu, qq4, qgc, dF, qga]
theorem qea (k : Nat) (hk : 2000000 ≤ k) (z1 z2 z3 z4 : Bool) (r : Int) (l : List Cell) (m t b : List Int) (F : StF r l m t b) (a c o : Int) (ha : 0 ≤ a ∧ a ≤ 10000) (hc : 0 ≤ c ∧ c ≤ 1000) (ho : 0 ≤ o ∧ o ≤ 250) :
    go (k + 3) spec_l13Apply [.agg [.int .i64 (r), .arr false (z1) (.r3 (l)), .arr false (z2) (.ints .i64 (m)), .arr false (z3) (.ints .i64 (t)), .arr false (z4) (.ints .i64 (b))], .agg [.int .i64 a, .int .i64 c, .int .i64 o]] =
      some [.agg [.int .i64 (r), .arr true (false) (.r3 (l)), .arr true (false) (.ints .i64 ((boS a c o (m, t)).1.1)), .arr true (false) (.ints .i64 ((boS a c o (m, t)).1.2)), .arr true (false) (.ints .i64 (b))], ldD (boS a c o (m, t)).2] := by
  rw [qj7]
  have L := F.len; have ml := F.ml; have tl := F.tl; have bl := F.bl; have rr := F.rr
  have f := F.at (m.length - 1)
  have d := quu ⟨f.1, f.2.1⟩ ho
  have ed : Int.tdiv (m.getD (m.length - 1) 0 * o) 1000 = boX o m := d.2
  have G := qa8 F ho
  have bx := qba F ho; have bY := qbb F ho; have ip := qlf ha hc
  have ey : qtc (t.getD (m.length - 1) 0) (boX o m) (m.getD (m.length - 1) 0) = boY o m t := rfl
  unfold boS
  change StF r l (m.set (m.length - 1) (m.getD (m.length - 1) 0 - boX o m)) (t.set (m.length - 1) (t.getD (m.length - 1) 0 - boY o m t)) b ∧ _ at G
  rw [show bo1 o (m, t) = (m.set (m.length - 1) (m.getD (m.length - 1) 0 - boX o m), t.set (m.length - 1) (t.getD (m.length - 1) 0 - boY o m t)) from rfl] at G ⊢
  simp (disch := omega) only [qer, nI, qff, qvt, dT, Bool.and_true, Int.toNat_natCast, ed, qd0, ey, Bool.true_and, List.length_set, qa6, nth0, qu2, qgc, qfu, qlg, qfw, qp3, qfi, qfj, qqu, qfx]
  generalize m.set (m.length - 1) (m.getD (m.length - 1) 0 - boX o m) = M at *
  generalize t.set (m.length - 1) (t.getD (m.length - 1) 0 - boY o m t) = T at *
  obtain ⟨G, g1, g2⟩ := G
  have Ml := G.ml; have Tl := G.tl; have Mf := G.at 0; have Ms := G.msum
  have eS := qet (k + 1) (by omega) false M (by omega) G.mmem
  by_cases h : isum M + a ≤ 10000000
  · rw [if_pos h]
    simp (disch := omega) only [eS, tnz, qvt, qa6, nth0, qu2, dT, qgc]
    rfl
  · rw [if_neg h]
    simp (disch := omega) only [eS, qa6, nth0, qu2, qvt, dF, qga]
theorem qn5 (k : Nat) (hk : 2000000 ≤ k) (fu : List (Nat × Nat)) (a0 : Int) (a1z : Bool) (a1 : List Cell) (a2z : Bool) (a2 : List Int) (a3z : Bool) (a3 : List Int) (a4z : Bool) (a4 : List Int) (z1 z2 z3 z4 : Bool) (r : Int) (l : List Cell) (b : List Int) : ∀ (N n i : Nat) (s : S2), i + n = 16 → n < N → StF r l s.1 s.2 b →
    lp (k + 6) impl_State_macro [(.ptr true [(.int .i64 (a0)), (.arr true (a1z) (.r3 (a1))), (.arr true (a2z) (.ints .i64 (a2))), (.arr true (a3z) (.ints .i64 (a3))), (.arr true (a4z) (.ints .i64 (a4)))])] fu 1 (N) (qr2 (i : Int) z1 l z2 s.1 z3 s.2 z4 b r) = some [.ptr true [.int .i64 (r), .arr true (z1) (.r3 (l)), .arr true (z2) (.ints .i64 ((qux l b n i s).1)), .arr true (z3) (.ints .i64 ((qux l b n i s).2)), .arr true (z4) (.ints .i64 (b))]]
  | 0, n, i, s, hi, hN, F => by omega
  | N + 1, 0, i, s, hi, hN, F => by
    rw [ql8]
    have : i = 16 := by omega
    subst this
    simp (disch := omega) only [dF, qfg, qvt, qga]; rfl
  | N + 1, n + 1, i, s, hi, hN, F => by
    rw [ql8]
    have L := F.len
    have IH := qn5 k hk fu a0 a1z a1 a2z a2 a3z a3 a4z a4 z1 z2 z3 z4 r l b N n (i + 1) (tick l b i s) (by omega) (by omega) (qt4 F i)
    have eA := qb5 (k + 1) (by omega) r z1 l (i : Int) (by omega) (by omega)
    have eM := qct k (by omega) z1 z2 z3 z4 false r l s.1 s.2 b (i : Int) F
    unfold qux
    simp only [tick] at IH
    simp (disch := omega) only [dT, eA, qfg, qvt, qa6, nth0, qp3, qlg, eM, qq1, qqu, qq2, qq3, qq4, qq0, qu2, IH, qgc]
    rfl
theorem qcr (k : Nat) (hk : 2000000 ≤ k) (z1 z2 z3 z4 : Bool) (r : Int) (l : List Cell) (m t b : List Int) (F : StF r l m t b) :
    go (k + 7) impl_State_macro [.ptr true [.int .i64 (r), .arr true (z1) (.r3 (l)), .arr true (z2) (.ints .i64 (m)), .arr true (z3) (.ints .i64 (t)), .arr true (z4) (.ints .i64 (b))]] = some [.ptr true [.int .i64 (r), .arr true (z1) (.r3 (l)), .arr true (z2) (.ints .i64 ((qux l b 16 0 (m, t)).1)), .arr true (z3) (.ints .i64 ((qux l b 16 0 (m, t)).2)), .arr true (z4) (.ints .i64 (b))]] := by
  rw [qhr]
  exact qn5 k hk [] r z1 l z2 m z3 t z4 b z1 z2 z3 z4 r l b (k + 6) 16 0 (m, t) rfl (by omega) F
theorem qbo (k : Nat) (x y : Ld) (h1 : 0 ≤ x.mi + y.mi ∧ x.mi + y.mi ≤ 1000000000000000000) (h2 : 0 ≤ x.mo + y.mo ∧ x.mo + y.mo ≤ 1000000000000000000) (h3 : 0 ≤ x.ti + y.ti ∧ x.ti + y.ti ≤ 1000000000000000000) (h4 : 0 ≤ x.ou + y.ou ∧ x.ou + y.ou ≤ 1000000000000000000) :
    go (k + 1) impl_LedgerAdd [ldD x, ldD y] = some [ldD (x.add y)] := by
  rw [qgy]
  simp (disch := omega) only [qvt]
  rfl
theorem qdx (k : Nat) (x y : Ld) (h1 : 0 ≤ x.mi + y.mi ∧ x.mi + y.mi ≤ 1000000000000000000) (h2 : 0 ≤ x.mo + y.mo ∧ x.mo + y.mo ≤ 1000000000000000000) (h3 : 0 ≤ x.ti + y.ti ∧ x.ti + y.ti ≤ 1000000000000000000) (h4 : 0 ≤ x.ou + y.ou ∧ x.ou + y.ou ≤ 1000000000000000000) :
    go (k + 1) spec_LedgerAdd [ldD x, ldD y] = some [ldD (x.add y)] := by
  rw [qi6]
  simp (disch := omega) only [qvt]
  rfl
end Go.Proofs.YtoldpdhhfmlckaaGreat
end
section
namespace Go.Proofs.YtoldpdhhfmlckaaGreat
open Go.Ev
set_option maxRecDepth 20000
abbrev plD (p : Pl) : D := .agg [.int .i64 p.bi, .int .i64 p.bs, .int .i64 p.bo, .int .i64 p.rain, .int .i64 p.loss, .int .i64 p.dec, .int .i64 p.high, .int .i64 p.low, .int .i64 p.every]
theorem qcx (k : Nat) (hk : 2000000 ≤ k) (z1 z2 z3 z4 : Bool) (r : Int) (l : List Cell) (s : S2) (b : List Int) (a : Int) (ha : 0 ≤ a ∧ a ≤ 10000) (F : StF r l s.1 s.2 b) :
    go (k + 5) impl_State_rain [.ptr true [.int .i64 (r), .arr true (z1) (.r3 (l)), .arr true (z2) (.ints .i64 (s.1)), .arr true (z3) (.ints .i64 (s.2)), .arr true (z4) (.ints .i64 (b))], .int .i64 a] = some [ldD (raS a l s).2, .ptr true [.int .i64 (r), .arr true (z1) (.r3 (l)), .arr true (z2) (.ints .i64 ((raS a l s).1.1)), .arr true (z3) (.ints .i64 ((raS a l s).1.2)), .arr true (z4) (.ints .i64 (b))]] := by
  have z := qqx a l s
  rw [qcw k hk z1 z2 z3 z4 r l s.1 s.2 b a ha F, qqw]
  simp only [ldD, z.1, z.2.1, z.2.2]
theorem qfd (k : Nat) (hk : 2000000 ≤ k) (z1 z2 z3 z4 : Bool) (r : Int) (l : List Cell) (s : S2) (b : List Int) (a : Int) (ha : 0 ≤ a ∧ a ≤ 10000) (F : StF r l s.1 s.2 b) :
    go (k + 4) spec_l14Rain [.agg [.int .i64 (r), .arr false (z1) (.r3 (l)), .arr false (z2) (.ints .i64 (s.1)), .arr false (z3) (.ints .i64 (s.2)), .arr false (z4) (.ints .i64 (b))], .int .i64 a] = some [.agg [.int .i64 (r), .arr true (false) (.r3 (l)), .arr true (false) (.ints .i64 ((raS a l s).1.1)), .arr true (false) (.ints .i64 ((raS a l s).1.2)), .arr true (false) (.ints .i64 (b))], ldD (raS a l s).2] := by
  have z := qqx a l s
  rw [qfc k hk z1 z2 z3 z4 r l s.1 s.2 b a ha F, qqw]
  simp only [ldD, z.1, z.2.1, z.2.2]
theorem qu0 {a b : Int} (ha : 0 ≤ a) : Int.tmod a b = a % b := Int.tmod_eq_emod_of_nonneg ha
set_option maxHeartbeats 1000000 in
theorem qc0 (k : Nat) (hk : 2000000 ≤ k) (r : Int) (s : S3) (b : List Int) (F : StF r s.1 s.2.1 s.2.2 b) (p : Pl) (P : PlF p) (c : Int) (hc : 0 ≤ c ∧ c ≤ 10000000) :
    go (k + 11) impl_State_runMacro [.ptr true [.int .i64 (r), .arr true (false) (.r3 (s.1)), .arr true (false) (.ints .i64 (s.2.1)), .arr true (false) (.ints .i64 (s.2.2)), .arr true (false) (.ints .i64 (b))], plD p, .int .i64 c] = some [ldD (mac p b c s).2, .ptr true [.int .i64 (r), .arr true (false) (.r3 ((mac p b c s).1.1)), .arr true (false) (.ints .i64 ((mac p b c s).1.2.1)), .arr true (false) (.ints .i64 ((mac p b c s).1.2.2)), .arr true (false) (.ints .i64 (b))]] := by
  rw [qhy]
  obtain ⟨l, s⟩ := s
  change StF r l s.1 s.2 b at F
  have h1 := qa9 F P.bi P.bs P.bo
  have e1 := qb8 (k + 6) (by omega) false false false false r l s.1 s.2 b F p.bi p.bs p.bo P.bi P.bs P.bo
  obtain ⟨s1, q1⟩ : ∃ x, x = boS p.bi p.bs p.bo s := ⟨_, rfl⟩
  change StF r l (boS p.bi p.bs p.bo s).1.1 (boS p.bi p.bs p.bo s).1.2 b ∧ Led s (boS p.bi p.bs p.bo s).1 (boS p.bi p.bs p.bo s).2 at h1
  change _ = some [ldD (boS p.bi p.bs p.bo s).2, .ptr true [.int .i64 (r), .arr true (false) (.r3 (l)), .arr true (false) (.ints .i64 ((boS p.bi p.bs p.bo s).1.1)), .arr true (false) (.ints .i64 ((boS p.bi p.bs p.bo s).1.2)), .arr true (false) (.ints .i64 (b))]] at e1
  rw [← q1] at h1 e1
  have h2 := qqv h1.1 P.rain
  have e2 := qcx (k + 5) (by omega) false false false false r l s1.1 b p.rain P.rain h1.1
  obtain ⟨s2, q2⟩ : ∃ x, x = raS p.rain l s1.1 := ⟨_, rfl⟩
  change StF r l (raS p.rain l s1.1).1.1 (raS p.rain l s1.1).1.2 b ∧ Led s1.1 (raS p.rain l s1.1).1 (raS p.rain l s1.1).2 at h2
  rw [← q2] at h2 e2
  have h3 := qtl h2.1 P.loss
  have e3 := qc3 (k + 5) (by omega) false false false false r l s2.1.1 s2.1.2 b p.loss P.loss h2.1
  obtain ⟨s3, q3⟩ : ∃ x, x = soS p.loss l s2.1 := ⟨_, rfl⟩
  change StF r l (soS p.loss l s2.1).1.1 (soS p.loss l s2.1).1.2 b ∧ Led s2.1 (soS p.loss l s2.1).1 (soS p.loss l s2.1).2 at h3
  change _ = some [ldD (soS p.loss l s2.1).2, .ptr true [.int .i64 (r), .arr true (false) (.r3 (l)), .arr true (false) (.ints .i64 ((soS p.loss l s2.1).1.1)), .arr true (false) (.ints .i64 ((soS p.loss l s2.1).1.2)), .arr true (false) (.ints .i64 (b))]] at e3
  rw [← q3] at h3 e3
  have h4 := qgg h3.1 P.dec
  have e4 := qce (k + 9) (by omega) false false false false r l s3.1.1 s3.1.2 b p.dec P.dec h3.1
  obtain ⟨s4, q4⟩ : ∃ x, x = deS p.dec l s3.1 := ⟨_, rfl⟩
  change StF r l (deS p.dec l s3.1).1.1 (deS p.dec l s3.1).1.2 b ∧ Led s3.1 (deS p.dec l s3.1).1 (deS p.dec l s3.1).2 at h4
  change _ = some [ldD (deS p.dec l s3.1).2, .ptr true [.int .i64 (r), .arr true (false) (.r3 (l)), .arr true (false) (.ints .i64 ((deS p.dec l s3.1).1.1)), .arr true (false) (.ints .i64 ((deS p.dec l s3.1).1.2)), .arr true (false) (.ints .i64 (b))]] at e4
  rw [← q4] at h4 e4
  have e5 := qcr (k + 3) (by omega) false false false false r l s4.1.1 s4.1.2 b h4.1
  have F5 := (quy 16 0 s4.1 h4.1).1
  have l1 := h1.2; have l2 := h2.2; have l3 := h3.2; have l4 := h4.2
  have a1 := l1.mi; have a2 := l2.mi; have a3 := l3.mi; have a4 := l4.mi
  have b1 := l1.mo; have b2 := l2.mo; have b3 := l3.mo; have b4 := l4.mo
  have c1 := l1.ti; have c2 := l2.ti; have c3 := l3.ti; have c4 := l4.ti
  have d1 := l1.ou; have d2 := l2.ou; have d3 := l3.ou; have d4 := l4.ou
  have g1 := qbo (k + 9) s1.2 s2.2 (by omega) (by omega) (by omega) (by omega)
  have g2 := qbo (k + 9) (s1.2.add s2.2) s3.2 (by simp only [Ld.add]; omega) (by simp only [Ld.add]; omega) (by simp only [Ld.add]; omega) (by simp only [Ld.add]; omega)
  have g3 := qbo (k + 9) ((s1.2.add s2.2).add s3.2) s4.2 (by simp only [Ld.add]; omega) (by simp only [Ld.add]; omega) (by simp only [Ld.add]; omega) (by simp only [Ld.add]; omega)
  have eq : mac p b c (l, s) = (if 0 < p.every ∧ (c + 1) % p.every = 0 then ada p.high p.low b (l, qux l b 16 0 s4.1) else (l, qux l b 16 0 s4.1), ((s1.2.add s2.2).add s3.2).add s4.2) := by
    subst q4; subst q3; subst q2; subst q1; rfl
  have eA := qb6 k (by omega) r l (qux l b 16 0 s4.1).1 (qux l b 16 0 s4.1).2 b F5 p.high p.low
  have tm : Int.tmod (c + 1) p.every = (c + 1) % p.every := qu0 (by omega)
  rw [eq]
  simp (disch := omega) only [e1, qvt, tm, qa6, nth1, qq0, qu2, qq1, qp3, qqu, qq2, qlg, qq3, qq4, e2, nth0, qfi, qfj, qfu, qfw, g1, e3, e4, e5, g2, g3]
  by_cases w : 0 < p.every
  · by_cases w2 : (c + 1) % p.every = 0
    · rw [if_pos ⟨w, w2⟩]
      simp (disch := omega) only [dT, dF, Bool.not_false, w2, dTT, eA, qa6, nth0, qq0, qu2, qq1, qp3, qqu, qq2, qlg, qq3, qq4, qgc]
      rfl
    · rw [if_neg (fun h => w2 h.2)]
      simp (disch := omega) only [dT, dF, Bool.not_false, qga, qgc]
  · rw [if_neg (fun h => w h.1)]
    simp (disch := omega) only [dF, qga]
set_option maxHeartbeats 1000000 in
theorem qoq (k : Nat) (hk : 2000000 ≤ k) (fu : List (Nat × Nat)) (r : Int) (l : List Cell) (b : List Int) (p : Pl) (P : PlF p) (c : Int) (hc : 0 ≤ c ∧ c ≤ 10000000) (L : Ld) (y1 y2 y3 y4 : Bool) (q1 : List Cell) (q2 q3 q4 : List Int) (p0 p1 p2 p3 p4 : Int) : ∀ (N n i : Nat) (s : S2), i + n = 16 → n < N → StF r l s.1 s.2 b →
    lp (k + 7) spec_l18Macro [] fu 8 (N) (qs3 c (i : Int) p.bi p.bs p.bo p.rain p.loss p.dec p.high p.low p.every y1 q1 y2 q2 y3 q3 y4 q4 p0 p1 p2 p3 p4 false l false s.1 false s.2 false b r L.mi L.mo L.ti L.ou) =
      some [.agg [.int .i64 (r), .arr true (false) (.r3 ((if 0 < p.every ∧ (c + 1) % p.every = 0 then ada p.high p.low b (l, qux l b n i s) else (l, qux l b n i s)).1)), .arr true (false) (.ints .i64 ((if 0 < p.every ∧ (c + 1) % p.every = 0 then ada p.high p.low b (l, qux l b n i s) else (l, qux l b n i s)).2.1)), .arr true (false) (.ints .i64 ((if 0 < p.every ∧ (c + 1) % p.every = 0 then ada p.high p.low b (l, qux l b n i s) else (l, qux l b n i s)).2.2)), .arr true (false) (.ints .i64 (b))], ldD L]
  | 0, n, i, s, hi, hN, F => by omega
  | N + 1, 0, i, s, hi, hN, F => by
    rw [qm9]
    have : i = 16 := by omega
    subst this
    have LL := F.len
    have tm : Int.tmod (c + 1) p.every = (c + 1) % p.every := qu0 (by omega)
    have eA := qe4 k (by omega) r l s.1 s.2 b F p.high p.low
    rw [show qux l b 0 16 s = s from rfl]
    simp (disch := omega) only [dF, qfg, qvt, tm, qga]
    by_cases w : 0 < p.every
    · by_cases w2 : (c + 1) % p.every = 0
      · rw [if_pos ⟨w, w2⟩]
        simp (disch := omega) only [dT, dF, Bool.not_false, w2, dTT, eA, qa6, nth0, qfi, qu2, qfj, qp3, qqu, qfu, qlg, qfw, qfx, qgc]
        rfl
      · rw [if_neg (fun h => w2 h.2)]
        simp (disch := omega) only [dT, dF, Bool.not_false, qga, qgc]
    · rw [if_neg (fun h => w h.1)]
      simp (disch := omega) only [dF, qga]
  | N + 1, n + 1, i, s, hi, hN, F => by
    rw [qm9]
    have LL := F.len
    have IH := qoq k hk fu r l b p P c hc L y1 y2 y3 y4 q1 q2 q3 q4 p0 p1 p2 p3 p4 N n (i + 1) (tick l b i s) (by omega) (by omega) (qt4 F i)
    have eS := qe0 (k + 2) (by omega) r false false false false l s.1 s.2 b F (i : Int)
    rw [show qux l b (n + 1) i s = qux l b n (i + 1) (tick l b i s) from rfl]
    simp only [tick] at IH ⊢
    simp (disch := omega) only [dT, eS, qfg, qvt, qa6, nth0, qfj, qp3, qqu, qfu, qlg, qfw, qfx, qfi, qu2, IH, qgc]
set_option maxHeartbeats 1000000 in
theorem qe5 (k : Nat) (hk : 2000000 ≤ k) (r : Int) (s : S3) (b : List Int) (F : StF r s.1 s.2.1 s.2.2 b) (p : Pl) (P : PlF p) (c : Int) (hc : 0 ≤ c ∧ c ≤ 10000000) :
    go (k + 8) spec_l18Macro [.agg [.int .i64 (r), .arr false (false) (.r3 (s.1)), .arr false (false) (.ints .i64 (s.2.1)), .arr false (false) (.ints .i64 (s.2.2)), .arr false (false) (.ints .i64 (b))], plD p, .int .i64 c] = some [.agg [.int .i64 (r), .arr true (false) (.r3 ((mac p b c s).1.1)), .arr true (false) (.ints .i64 ((mac p b c s).1.2.1)), .arr true (false) (.ints .i64 ((mac p b c s).1.2.2)), .arr true (false) (.ints .i64 (b))], ldD (mac p b c s).2] := by
  rw [qkg]
  obtain ⟨l, s⟩ := s
  change StF r l s.1 s.2 b at F
  have h1 := qa9 F P.bi P.bs P.bo
  have e1 := qea (k + 4) (by omega) false false false false r l s.1 s.2 b F p.bi p.bs p.bo P.bi P.bs P.bo
  obtain ⟨s1, q1⟩ : ∃ x, x = boS p.bi p.bs p.bo s := ⟨_, rfl⟩
  change StF r l (boS p.bi p.bs p.bo s).1.1 (boS p.bi p.bs p.bo s).1.2 b ∧ Led s (boS p.bi p.bs p.bo s).1 (boS p.bi p.bs p.bo s).2 at h1
  change _ = some [.agg [.int .i64 (r), .arr true (false) (.r3 (l)), .arr true (false) (.ints .i64 ((boS p.bi p.bs p.bo s).1.1)), .arr true (false) (.ints .i64 ((boS p.bi p.bs p.bo s).1.2)), .arr true (false) (.ints .i64 (b))], ldD (boS p.bi p.bs p.bo s).2] at e1
  rw [← q1] at h1 e1
  have h2 := qqv h1.1 P.rain
  have e2 := qfd (k + 3) (by omega) false false false false r l s1.1 b p.rain P.rain h1.1
  obtain ⟨s2, q2⟩ : ∃ x, x = raS p.rain l s1.1 := ⟨_, rfl⟩
  change StF r l (raS p.rain l s1.1).1.1 (raS p.rain l s1.1).1.2 b ∧ Led s1.1 (raS p.rain l s1.1).1 (raS p.rain l s1.1).2 at h2
  rw [← q2] at h2 e2
  have h3 := qtl h2.1 P.loss
  have e3 := qfe (k + 3) (by omega) false false false false r l s2.1.1 s2.1.2 b p.loss P.loss h2.1
  obtain ⟨s3, q3⟩ : ∃ x, x = soS p.loss l s2.1 := ⟨_, rfl⟩
  change StF r l (soS p.loss l s2.1).1.1 (soS p.loss l s2.1).1.2 b ∧ Led s2.1 (soS p.loss l s2.1).1 (soS p.loss l s2.1).2 at h3
  change _ = some [.agg [.int .i64 (r), .arr true (false) (.r3 (l)), .arr true (false) (.ints .i64 ((soS p.loss l s2.1).1.1)), .arr true (false) (.ints .i64 ((soS p.loss l s2.1).1.2)), .arr true (false) (.ints .i64 (b))], ldD (soS p.loss l s2.1).2] at e3
  rw [← q3] at h3 e3
  have h4 := qgg h3.1 P.dec
  have e4 := qeb (k + 4) (by omega) false false false false r l s3.1.1 s3.1.2 b p.dec P.dec h3.1
  obtain ⟨s4, q4⟩ : ∃ x, x = deS p.dec l s3.1 := ⟨_, rfl⟩
  change StF r l (deS p.dec l s3.1).1.1 (deS p.dec l s3.1).1.2 b ∧ Led s3.1 (deS p.dec l s3.1).1 (deS p.dec l s3.1).2 at h4
  change _ = some [.agg [.int .i64 (r), .arr true (false) (.r3 (l)), .arr true (false) (.ints .i64 ((deS p.dec l s3.1).1.1)), .arr true (false) (.ints .i64 ((deS p.dec l s3.1).1.2)), .arr true (false) (.ints .i64 (b))], ldD (deS p.dec l s3.1).2] at e4
  rw [← q4] at h4 e4
  have l1 := h1.2; have l2 := h2.2; have l3 := h3.2; have l4 := h4.2
  have a1 := l1.mi; have a2 := l2.mi; have a3 := l3.mi; have a4 := l4.mi
  have b1 := l1.mo; have b2 := l2.mo; have b3 := l3.mo; have b4 := l4.mo
  have c1 := l1.ti; have c2 := l2.ti; have c3 := l3.ti; have c4 := l4.ti
  have d1 := l1.ou; have d2 := l2.ou; have d3 := l3.ou; have d4 := l4.ou
  have g1 := qdx (k + 6) s1.2 s2.2 (by omega) (by omega) (by omega) (by omega)
  have g2 := qdx (k + 6) s3.2 s4.2 (by omega) (by omega) (by omega) (by omega)
  have g3 := qdx (k + 6) (s1.2.add s2.2) (s3.2.add s4.2) (by simp only [Ld.add]; omega) (by simp only [Ld.add]; omega) (by simp only [Ld.add]; omega) (by simp only [Ld.add]; omega)
  have ll : (s1.2.add s2.2).add (s3.2.add s4.2) = ((s1.2.add s2.2).add s3.2).add s4.2 := by simp only [Ld.add, Int.add_assoc]
  have eq : mac p b c (l, s) = (if 0 < p.every ∧ (c + 1) % p.every = 0 then ada p.high p.low b (l, qux l b 16 0 s4.1) else (l, qux l b 16 0 s4.1), (s1.2.add s2.2).add (s3.2.add s4.2)) := by
    rw [ll]; subst q4; subst q3; subst q2; subst q1; rfl
  have eM := qoq k hk [] r l b p P c hc ((s1.2.add s2.2).add (s3.2.add s4.2)) true true true true [] [] [] [] 0 0 0 0 0 (k + 7) 16 0 s4.1 rfl (by omega) h4.1
  rw [show ((0 : Nat) : Int) = 0 from rfl] at eM
  rw [eq]
  simp (disch := omega) only [e1, qa6, nth0, qfi, qu2, qfj, qp3, qqu, qfu, qlg, qfw, qfx, e2, nth1, e3, g1, e4, g2, g3]
  exact eM
end Go.Proofs.YtoldpdhhfmlckaaGreat
end
