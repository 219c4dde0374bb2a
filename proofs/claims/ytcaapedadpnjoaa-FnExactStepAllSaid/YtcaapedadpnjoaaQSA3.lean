/- What the program's functions compute, and plain facts of it (part 3). No condition beyond those that each theorem states. -/
import Derived.Test.YtcaapedadpnjoaaQSA2
set_option linter.unusedVariables false
set_option linter.unusedSimpArgs false
section
namespace Go.Proofs.Ytcaapedadpnjoaa
open Go Go.RowKit Go.Ev
theorem qkf {W : World} {v : Value} {F : Feet} {z : Bool} {l : List Cell} {b : Int} (hd : RepD W (.arr true z (.r3 l)) v F) (hl : (l.length : Int) ≤ 1048576) (h0 : 0 ≤ b) (hb : b ≤ 8796093022208) :
    Calls Try.prog 62 #[v, .int .i64 b] W fun e W' => e = .returned (.int .i64 (b + 3 * l.length)) ∧ Fr (ownOf F) W W' ∧ ∃ F', RepD W' (.arr true z (.r3 (qjq b l.length))) v F' ∧ ∀ b off, ownOf F' b off → ownOf F b off := by
  have e1 : ev Try.prog An (2000000 + 1) 62 [.arr true z (.r3 l), .int .i64 b] = some [.int .i64 (b + 3 * l.length), .arr true z (.r3 (qjq b l.length))] := qb8 2000000 (by omega) z l b hl h0 hb
  exact Contract.markedC (ev_contract good noExt e1) hd
theorem qlk {W : World} {r : List RC} (hok : okSt r = true) {us : List Value} {F : Feet} (hr : RepDs W (dsO r) us F) :
    ∃ (n0 : Int) (v1 v2 v3 v4 : Value) (F1 F2 F3 F4 : Feet) (z1 z2 z3 z4 : Bool) (l : List Cell) (a b c : List Int), r = [.n n0, .r3 z1 l, .is z2 a, .is z3 b, .is z4 c] ∧ us = [.int .i64 n0, v1, v2, v3, v4] ∧ F = F1 ++ (F2 ++ (F3 ++ F4)) ∧
      RepD W (.arr true z1 (.r3 l)) v1 F1 ∧ RepD W (.arr true z2 (.ints .i64 a)) v2 F2 ∧ RepD W (.arr true z3 (.ints .i64 b)) v3 F3 ∧ RepD W (.arr true z4 (.ints .i64 c)) v4 F4 ∧
      (l.length : Int) ≤ 1048576 ∧ (a.length : Int) ≤ 1048576 ∧ (b.length : Int) ≤ 1048576 ∧ (c.length : Int) ≤ 1048576 := by
  unfold okSt at hok
  split at hok
  · rename_i r0 z1 l z2 a z3 b z4 c
    simp only [Bool.and_eq_true, decide_eq_true_eq] at hok
    simp only [dsO, RepDs] at hr
    obtain ⟨u0, us0, G0, H0, rfl, rfl, h0, u1, us1, G1, H1, rfl, rfl, h1, u2, us2, G2, H2, rfl, rfl, h2, u3, us3, G3, H3, rfl, rfl, h3, u4, us4, G4, H4, rfl, rfl, h4, rfl, rfl⟩ := hr
    simp only [RepD] at h0
    obtain ⟨rfl, rfl⟩ := h0
    exact ⟨_, u1, u2, u3, u4, G1, G2, G3, G4, z1, z2, z3, z4, l, a, b, c, rfl, rfl, by simp, h1, h2, h3, h4, hok.1, hok.2.1, hok.2.2.1, hok.2.2.2⟩
  · cases hok
theorem qli {W : World} {n0 : Int} {v1 v2 v3 v4 : Value} {F1 F2 F3 F4 : Feet} {z1 z2 z3 z4 : Bool} {l : List Cell} {a b c : List Int}
    (h1 : RepD W (.arr true z1 (.r3 l)) v1 F1) (h2 : RepD W (.arr true z2 (.ints .i64 a)) v2 F2) (h3 : RepD W (.arr true z3 (.ints .i64 b)) v3 F3) (h4 : RepD W (.arr true z4 (.ints .i64 c)) v4 F4) :
    RowL W zSt [.int .i64 n0, v1, v2, v3, v4] [.n n0, .r3 z1 l, .is z2 a, .is z3 b, .is z4 c] := by
  have h : RepDs W (dsO [.n n0, .r3 z1 l, .is z2 a, .is z3 b, .is z4 c]) [.int .i64 n0, v1, v2, v3, v4] ([] ++ (F1 ++ (F2 ++ (F3 ++ (F4 ++ []))))) := by
    simp only [dsO, RepDs]
    exact ⟨_, _, _, _, rfl, rfl, by simp [RepD], _, _, _, _, rfl, rfl, h1, _, _, _, _, rfl, rfl, h2, _, _, _, _, rfl, rfl, h3, _, _, _, _, rfl, rfl, h4, rfl, rfl⟩
  obtain ⟨G, hG, _⟩ := RepDs.ro _ h
  rw [qlg] at hG
  exact row_of_ds _ hG
structure TmJ (W0 : World) (B lo0 hi : Nat) (uss : List (List Value)) (l : List (List RC)) (i : Nat) (W : World) : Prop where
  own : ∃ lo, lo0 ≤ lo ∧ OwnR W B lo (uss.drop i) (l.drop i) hi ∧ ∃ ds : List (List Value), RowsL W zSt ds (qj7 1 (l.take i)) ∧ ds.length = i ∧ (∀ us ∈ ds, ∀ b off, innR zSt us b off → b < lo ∧ b ≠ B) ∧ W.rangeAt B 0 ds.flatten
  row : ∀ j, i ≤ j → j < uss.length → W.rangeAt B (j * 5) (uss.getD j [])
  ther : W.there B 0 (uss.length * 5)
  fr : Fr (fun b _ => lo0 ≤ b ∧ b < hi) W0 W
  hB : lo0 ≤ B ∧ B < hi
theorem TmJ.at {W0 W : World} {B lo0 hi i : Nat} {uss : List (List Value)} {l : List (List RC)} (I : TmJ W0 B lo0 hi uss l i W) (hi' : i < uss.length) (hl : uss.length = l.length) :
    ∃ lo mid F, lo0 ≤ lo ∧ okSt (rrow l i) = true ∧ RepDs W (dsO (rrow l i)) (uss.getD i []) F ∧ Ev.Sep F ∧ (∀ b off, ownOf F b off → lo ≤ b ∧ b < mid ∧ b ≠ B) ∧ lo ≤ mid ∧ mid ≤ hi ∧ OwnR W B mid (uss.drop (i + 1)) (l.drop (i + 1)) hi ∧
      ∃ ds : List (List Value), RowsL W zSt ds (qj7 1 (l.take i)) ∧ ds.length = i ∧ (∀ us ∈ ds, ∀ b off, innR zSt us b off → b < lo ∧ b ≠ B) ∧ W.rangeAt B 0 ds.flatten := by
  obtain ⟨lo, h1, h2, h3⟩ := I.own
  rw [qeb hi' [], qeb (l := l) (by omega) []] at h2
  obtain ⟨mid, F, a1, a2, a3, a4, a5, a6⟩ := h2
  exact ⟨lo, mid, F, h1, a1, a2, a3, a4, a5, a6.le, a6, h3⟩
theorem TmJ.next {W0 W W' : World} {B lo0 hi i : Nat} {uss : List (List Value)} {l : List (List RC)} (I : TmJ W0 B lo0 hi uss l i W) (hi' : i < uss.length) (hl : uss.length = l.length) {lo mid : Nat} (hlo : lo0 ≤ lo) (hle : lo ≤ mid) (hm : mid ≤ hi) (ho : OwnR W B mid (uss.drop (i + 1)) (l.drop (i + 1)) hi) (h5 : ∀ us ∈ uss, us.length = 5)
    {ds : List (List Value)} (d1 : RowsL W zSt ds (qj7 1 (l.take i))) (d2 : ds.length = i) (d3 : ∀ us ∈ ds, ∀ b off, innR zSt us b off → b < lo ∧ b ≠ B) (d4 : W.rangeAt B 0 ds.flatten)
    {us : List Value} (n1 : RowL W' zSt us (qj6 (qkb 1 (l.take i)) (rrow l i))) (n2 : ∀ b off, innR zSt us b off → b < mid ∧ b ≠ B) (n3 : W'.rangeAt B (i * 5) us)
    (f : Fr (fun b off => (b = B ∧ off = i * 5) ∨ (lo ≤ b ∧ b < mid ∧ b ≠ B)) W W') : TmJ W0 B lo0 hi uss l (i + 1) W' := by
  have dl : ds.flatten.length = i * 5 := by
    have := d1.flat
    rw [qj9, List.length_take, show min i l.length = i by omega] at this
    exact this
  refine ⟨⟨mid, by omega, ho.frame f fun b off h1 h2 h3 h => by rcases h with h | h <;> omega, ds ++ [us], ?_, by simp [d2], ?_, ?_⟩, fun j hj hj' => ?_, qng f I.ther, ?_, I.hB⟩
  · rw [qnd (by omega), qka]
    have g1 : RowsL W' zSt ds (qj7 1 (l.take i)) := d1.frame f fun b off ⟨vs, hv, h⟩ h' => by
      have := d3 vs hv b off h
      rcases h' with h' | h'
      · exact this.2 h'.1
      · omega
    exact RowsL.app (vss := [us]) ⟨_, [], rfl, n1, rfl⟩ g1
  · intro vs hv b off h
    rcases List.mem_append.1 hv with hv | hv
    · have := d3 vs hv b off h; omega
    · rw [List.mem_singleton.1 hv] at h; exact n2 b off h
  · rw [List.flatten_append]
    intro j v hj
    by_cases hlt : j < ds.flatten.length
    · rw [List.getElem?_append_left hlt] at hj
      have := d4 j v hj
      rw [Nat.zero_add] at this ⊢
      refine qd3 f this fun h => ?_
      rcases h with ⟨_, h⟩ | ⟨_, _, h⟩
      · omega
      · exact h rfl
    · rw [List.getElem?_append_right (by omega)] at hj
      have := n3 (j - ds.flatten.length) v (by simpa using hj)
      rwa [show i * 5 + (j - ds.flatten.length) = 0 + j by omega] at this
  · intro c v hv
    have := I.row j (by omega) hj' c v hv
    have hc : c < 5 := by
      have := (List.getElem?_eq_some_iff.1 hv).1
      have h5' := h5 _ (qg7 hj' [])
      omega
    refine qd3 f this fun h => ?_
    rcases h with ⟨_, h⟩ | ⟨_, _, h⟩
    · omega
    · exact h rfl
  · refine I.fr.trans (f.mono fun b off _ h => ?_)
    have := I.hB
    rcases h with ⟨rfl, _⟩ | h
    · exact this
    · omega
end Go.Proofs.Ytcaapedadpnjoaa
end
section
namespace Go.Proofs.Ytcaapedadpnjoaa
open Go Go.RowKit Go.Ev
set_option maxRecDepth 100000 in
set_option maxHeartbeats 4000000 in
theorem qnl {W : World} {B lo0 hi cap : Nat} {uss : List (List Value)} {l : List (List RC)} (hn : l.length ≤ 1048576) (hul : uss.length = l.length) (h5 : ∀ us ∈ uss, us.length = 5) (hok : ∀ i, i < l.length → okSt (rrow l i) = true) (I : TmJ W B lo0 hi uss l 0 W) :
    Calls Try.prog 27 #[.slice (some ⟨B, 0, none⟩) l.length cap, .int .i64 1] W fun e W' => ∃ kk, e = .returned (.int .i64 kk) ∧ kk = qkb 1 l ∧ TmJ W B lo0 hi uss l l.length W' := by
  go_enter Try.func27, Try.ntmps27
  go_wp2
  go_loopw [1, 5] (fun k i wr => ∃ (kk : Int) (j : Nat), j ≤ l.length ∧ k = .int .i64 kk ∧ i = .int .i64 j ∧ (∃ u : Unit, kk = qkb 1 (l.take j)) ∧ TmJ W B lo0 hi uss l j wr) (fun k i _ => l.length - (RowKit.intOf i).toNat)
  case atStart => exact ⟨1, 0, Nat.zero_le _, rfl, rfl, ⟨(), rfl⟩, I⟩
  case round =>
    obtain ⟨kk, i, hil, rfl, rfl, ek, hI⟩ := hrel
    by_cases hlt : i < l.length
    · obtain ⟨lo, mid, F, hlo, hok1, hr, hs, hF, hle, hm, hO, ds, ds1, ds2, ds3, ds4⟩ := hI.at (by omega) hul
      have sb := qke hok hn hil
      have kb : 1 ≤ kk ∧ kk ≤ 6700000000000 := by obtain ⟨_, e⟩ := ek; omega
      have row := hI.row i (Nat.le_refl _) (by omega)
      obtain ⟨n0, v1, v2, v3, v4, F1, F2, F3, F4, z1, z2, z3, z4, q, a, b, c, hr0, hus, rfl, r1, r2, r3, r4, l1, l2, l3, l4⟩ := qlk hok1 hr
      have hr0' : ∃ u : Unit, rrow l i = [.n n0, .r3 z1 q, .is z2 a, .is z3 b, .is z4 c] := ⟨(), hr0⟩
      rw [hus] at row
      clear hr0 hus hr sb
      have c0 : wr.cell? ⟨B, i * 5, none⟩ = some (.int .i64 n0) := row 0 _ rfl
      have c1 := row 1 v1 rfl
      have c2 := row 2 v2 rfl
      have c3 := row 3 v3 rfl
      have c4 := row 4 v4 rfl
      have th := hI.ther (i * 5) (by omega)
      rw [Nat.zero_add] at th
      have fz : wr.frozen? ⟨B, i * 5, none⟩ = false := th.2
      have w1 : IntKind.i64.wrap (kk + 1) = kk + 1 := by rw [IntKind.wrap_i64]; omega
      have fa : Fr (Span B (i * 5) 1) wr (wr.setCell ⟨B, i * 5, none⟩ (.int .i64 kk)) := qg4 (vs := [.int .i64 kk]) (fun j hj => by
        have : j = 0 := by simpa using hj
        subst this
        exact th) (by simp [Value.oneCell'])
      have m0 : (wr.setCell ⟨B, i * 5, none⟩ (.int .i64 kk)).cell? ⟨B, i * 5, none⟩ = some (.int .i64 kk) := by
        have := World.rangeAt_setCells_same wr B (i * 5) [.int .i64 kk] (fun j hj => by
          have : j = 0 := by simpa using hj
          subst this
          exact th) 0 (.int .i64 kk) rfl
        exact this
      have o1 := qar r1; have o2 := qar r2; have o3 := qar r3; have o4 := qar r4
      have d1 : ∀ b off, ownOf F1 b off → lo ≤ b ∧ b < mid ∧ b ≠ B := fun b off h => hF b off (qk2 h)
      have d2 : ∀ b off, ownOf F2 b off → lo ≤ b ∧ b < mid ∧ b ≠ B := fun b off h => hF b off (qk3 (qk2 h))
      have d3 : ∀ b off, ownOf F3 b off → lo ≤ b ∧ b < mid ∧ b ≠ B := fun b off h => hF b off (qk3 (qk3 (qk2 h)))
      have d4 : ∀ b off, ownOf F4 b off → lo ≤ b ∧ b < mid ∧ b ≠ B := fun b off h => hF b off (qk3 (qk3 (qk3 h)))
      have r1 := qk0 r1 o1 fa (fun b off h hs => (d1 b off h).2.2 hs.1); have r2 := qk0 r2 o2 fa (fun b off h hs => (d2 b off h).2.2 hs.1)
      have r3 := qk0 r3 o3 fa (fun b off h hs => (d3 b off h).2.2 hs.1); have r4 := qk0 r4 o4 fa (fun b off h hs => (d4 b off h).2.2 hs.1)
      have c1 := qd3 fa c1 (fun h => by have := h.2.2; omega); have c2 := qd3 fa c2 (fun h => by have := h.2.2; omega)
      have c3 := qd3 fa c3 (fun h => by have := h.2.2; omega); have c4 := qd3 fa c4 (fun h => by have := h.2.2; omega)
      go_wp2_with (go_at_call 62; refine (qkf r1 l1 (by omega) (by omega)).mono ?_)
      rintro e W1 ⟨rfl, f1, F1', r1, u1⟩
      have a12 := fun b off => qmp hs o1 (b := b) (off := off)
      have hs2 := qmq hs
      have a23 := fun b off => qmp hs2 o2 (b := b) (off := off)
      have a34 := fun b off => qmp (qmq hs2) o3 (b := b) (off := off)
      have r2 := qk0 r2 o2 f1 (fun b off h => a12 b off (qk2 h)); have r3 := qk0 r3 o3 f1 (fun b off h => a12 b off (qk3 (qk2 h))); have r4 := qk0 r4 o4 f1 (fun b off h => a12 b off (qk3 (qk3 h)))
      have m0 := qd3 f1 m0 (fun h => (d1 _ _ h).2.2 rfl); have c1 := qd3 f1 c1 (fun h => (d1 _ _ h).2.2 rfl); have c2 := qd3 f1 c2 (fun h => (d1 _ _ h).2.2 rfl); have c3 := qd3 f1 c3 (fun h => (d1 _ _ h).2.2 rfl); have c4 := qd3 f1 c4 (fun h => (d1 _ _ h).2.2 rfl)
      go_wp2_with (go_at_call 28; refine (qkg r2 l2 (by omega) (by omega)).mono ?_)
      rintro e W2 ⟨rfl, f2, F2', r2, u2⟩
      have r1 := qk0 r1 (qar r1) f2 (fun b off h h' => a12 b off (qk2 h') (u1 b off h)); have r3 := qk0 r3 o3 f2 (fun b off h => a23 b off (qk2 h)); have r4 := qk0 r4 o4 f2 (fun b off h => a23 b off (qk3 h))
      have m0 := qd3 f2 m0 (fun h => (d2 _ _ h).2.2 rfl); have c1 := qd3 f2 c1 (fun h => (d2 _ _ h).2.2 rfl); have c2 := qd3 f2 c2 (fun h => (d2 _ _ h).2.2 rfl); have c3 := qd3 f2 c3 (fun h => (d2 _ _ h).2.2 rfl); have c4 := qd3 f2 c4 (fun h => (d2 _ _ h).2.2 rfl)
      go_wp2_with (go_at_call 28; refine (qkg r3 l3 (by omega) (by omega)).mono ?_)
      rintro e W3 ⟨rfl, f3, F3', r3, u3⟩
      have r1 := qk0 r1 (qar r1) f3 (fun b off h h' => a12 b off (qk3 (qk2 h')) (u1 b off h)); have r2 := qk0 r2 (qar r2) f3 (fun b off h h' => a23 b off (qk2 h') (u2 b off h)); have r4 := qk0 r4 o4 f3 (fun b off h => a34 b off h)
      have m0 := qd3 f3 m0 (fun h => (d3 _ _ h).2.2 rfl); have c1 := qd3 f3 c1 (fun h => (d3 _ _ h).2.2 rfl); have c2 := qd3 f3 c2 (fun h => (d3 _ _ h).2.2 rfl); have c3 := qd3 f3 c3 (fun h => (d3 _ _ h).2.2 rfl); have c4 := qd3 f3 c4 (fun h => (d3 _ _ h).2.2 rfl)
      go_wp2_with (go_at_call 28; refine (qkg r4 l4 (by omega) (by omega)).mono ?_)
      rintro e W4 ⟨rfl, f4, F4', r4, u4⟩
      have r1 := qk0 r1 (qar r1) f4 (fun b off h h' => a12 b off (qk3 (qk3 h')) (u1 b off h)); have r2 := qk0 r2 (qar r2) f4 (fun b off h h' => a23 b off (qk3 h') (u2 b off h)); have r3 := qk0 r3 (qar r3) f4 (fun b off h h' => a34 b off h' (u3 b off h))
      have m0 := qd3 f4 m0 (fun h => (d4 _ _ h).2.2 rfl); have c1 := qd3 f4 c1 (fun h => (d4 _ _ h).2.2 rfl); have c2 := qd3 f4 c2 (fun h => (d4 _ _ h).2.2 rfl); have c3 := qd3 f4 c3 (fun h => (d4 _ _ h).2.2 rfl); have c4 := qd3 f4 c4 (fun h => (d4 _ _ h).2.2 rfl)
      have ff : Fr (fun b off => (b = B ∧ off = i * 5) ∨ (lo ≤ b ∧ b < mid ∧ b ≠ B)) wr W4 :=
        (fa.mono fun b off _ h => .inl ⟨h.1, by have := h.2; omega⟩).trans ((f1.mono fun b off _ h => .inr (d1 b off h)).trans ((f2.mono fun b off _ h => .inr (d2 b off h)).trans ((f3.mono fun b off _ h => .inr (d3 b off h)).trans (f4.mono fun b off _ h => .inr (d4 b off h)))))
      have hrow : RowL W4 zSt [.int .i64 kk, v1, v2, v3, v4] (qj6 (qkb 1 (l.take i)) (rrow l i)) := by
        obtain ⟨_, e1⟩ := hr0'
        obtain ⟨_, e2⟩ := ek
        rw [e1, ← e2]
        exact qli r1 r2 r3 r4
      have hcl : W4.rangeAt B (i * 5) [.int .i64 kk, v1, v2, v3, v4] := by
        intro j v hj
        match j, hj with
        | 0, hj => cases hj; exact m0
        | 1, hj => cases hj; exact c1
        | 2, hj => cases hj; exact c2
        | 3, hj => cases hj; exact c3
        | 4, hj => cases hj; exact c4
      have hsp : ∀ b off, innR zSt [.int .i64 kk, v1, v2, v3, v4] b off → b < mid ∧ b ≠ B := by
        intro bb off h
        have hd : RepDs W4 (dsO [.n kk, .r3 z1 (qjq (kk + 1) q.length), .is z2 (marks (kk + 1 + 3 * q.length) a.length), .is z3 (marks (kk + 1 + 3 * q.length + a.length) b.length), .is z4 (marks (kk + 1 + 3 * q.length + a.length + b.length) c.length)]) [.int .i64 kk, v1, v2, v3, v4] ([] ++ (F1' ++ (F2' ++ (F3' ++ (F4' ++ []))))) := by
          simp only [dsO, RepDs]
          exact ⟨_, _, _, _, rfl, rfl, by simp [RepD], _, _, _, _, rfl, rfl, r1, _, _, _, _, rfl, rfl, r2, _, _, _, _, rfl, rfl, r3, _, _, _, _, rfl, rfl, r4, rfl, rfl⟩
        obtain ⟨A, hA, h1, h2⟩ := qk1 _ hd h
        simp only [List.nil_append, List.append_nil, List.mem_append] at hA
        rcases hA with hA | hA | hA | hA
        · exact (d1 bb off (u1 bb off ⟨A, hA, h1, h2⟩)).2
        · exact (d2 bb off (u2 bb off ⟨A, hA, h1, h2⟩)).2
        · exact (d3 bb off (u3 bb off ⟨A, hA, h1, h2⟩)).2
        · exact (d4 bb off (u4 bb off ⟨A, hA, h1, h2⟩)).2
      have nx := hI.next (by omega) hul hlo hle hm hO h5 ds1 ds2 ds3 ds4 hrow hsp hcl ff
      have ek' : ∃ u : Unit, kk + 1 + 3 * (q.length : Int) + a.length + b.length + c.length = qkb 1 (l.take (i + 1)) := by
        obtain ⟨_, e1⟩ := hr0'
        obtain ⟨_, e2⟩ := ek
        refine ⟨(), ?_⟩
        rw [qnd hlt, qkd, e1, qj4, ← e2]; omega
      clear r1 r2 r3 r4 c1 c2 c3 c4 m0 f1 f2 f3 f4 fa ff hI hrow hsp hcl ds1 ds2 ds3 ds4 hr0' ek u1 u2 u3 u4
      go_wp2
      go_roundw
      case rel => exact ⟨_, i + 1, by omega, rfl, by go_num, ek', nx⟩
      case measure => simp [RowKit.intOf]; omega
    · obtain rfl : i = l.length := by omega
      go_wp2
      go_ret
      obtain ⟨_, e⟩ := ek
      rw [List.take_length] at e
      exact ⟨kk, rfl, e, hI⟩
set_option maxRecDepth 100000 in
theorem qjp {W : World} : Calls Try.prog 27 #[.slice none 0 0, .int .i64 1] W fun e W' => e = .returned (.int .i64 1) ∧ W' = W := by
  go_enter Try.func27, Try.ntmps27
  go_wp2
  go_loopw [1, 5] (fun k i wr => k = .int .i64 1 ∧ i = .int .i64 0 ∧ wr = W) (fun k i _ => 0)
  case atStart => exact ⟨rfl, rfl, rfl⟩
  case round =>
    obtain ⟨rfl, rfl, rfl⟩ := hrel
    go_wp2
    go_ret
    exact ⟨rfl, rfl⟩
end Go.Proofs.Ytcaapedadpnjoaa
end
section
namespace Go.Proofs.Ytcaapedadpnjoaa
open Go Go.RowKit Go.Ev
theorem OwnR.ok {w : World} {B : Nat} : ∀ {uss : List (List Value)} {l : List (List RC)} {lo hi : Nat}, OwnR w B lo uss l hi → ∀ i, i < l.length → okSt (rrow l i) = true
  | [], [], lo, hi, h, i, hi' => by cases hi'
  | us :: uss, r :: l, lo, hi, ⟨mid, F, hz, h1, h2, h3, h4, h5⟩, 0, hi' => hz
  | us :: uss, r :: l, lo, hi, ⟨mid, F, hz, h1, h2, h3, h4, h5⟩, i + 1, hi' => h5.ok i (by simpa using hi')
theorem Out.ok {W : World} {lo hi : Nat} {l : List (List RC)} {u : Value} (h : Out W lo hi l u) : ∀ i, i < l.length → okSt (rrow l i) = true := by
  obtain ⟨B, cap, uss, hO, _⟩ := h
  exact hO.ok
theorem qkz {W : World} {lo hi : Nat} {l : List (List RC)} {u : Value} (hn : l.length ≤ 1048576) (h : Out W lo hi l u) :
    Calls Try.prog 27 #[u, .int .i64 1] W fun e W' => e = .returned (.int .i64 (qkb 1 l)) ∧ Fr (fun b _ => lo ≤ b ∧ b < hi) W W' ∧ ∃ nz F, RepD W' (.rows nz zSt (qj7 1 l)) u F ∧ Still F := by
  have hok := h.ok
  obtain ⟨B, cap, uss, hO, h⟩ := h
  have hR := hO.rows
  rcases h with ⟨rfl, rfl⟩ | ⟨rfl, h2, h3, h4, h5, h6⟩
  · refine qjp.mono ?_
    rintro e W' ⟨rfl, rfl⟩
    refine ⟨rfl, Fr.refl _ _, true, _, by
      simp only [RepD]
      exact ⟨⟨none, 0, 0, 5, []⟩, rfl, ⟨rfl, rfl, by simp, (fun _ => ⟨rfl, rfl⟩), (fun x hx => by cases hx), (fun h => by cases h), rfl⟩, rfl⟩, fun A hA => ?_⟩
    rcases List.mem_cons.1 hA with rfl | hA
    · rfl
    · rw [List.mem_singleton.1 hA]
  · have u5 : ∀ us ∈ uss, us.length = 5 := hR.all
    have ul : uss.length = l.length := hR.len
    have I : TmJ W B lo hi uss l 0 W := by
      refine ⟨⟨lo, Nat.le_refl _, by rw [List.drop_zero, List.drop_zero]; exact hO, [], by rw [List.take_zero]; rfl, rfl, (fun us hu => by cases hu), fun j v hj => by simp at hj⟩, fun j _ hj c v hv => ?_, by rw [ul]; exact h6, Fr.refl _ _, h3, h4⟩
      obtain ⟨_, _, g3⟩ := hR.get (i := j) (by omega)
      have e : (uss.getD j [])[c]? = uss.flatten[j * 5 + c]? := by
        rw [← g3]
        have hc : c < 5 := by
          have := (List.getElem?_eq_some_iff.1 hv).1
          have h5' := u5 _ (qg7 hj [])
          omega
        rw [List.getElem?_take, if_pos (show c < zSt.length from hc), List.getElem?_drop]
        rfl
      rw [e] at hv
      have := h5 _ v hv
      rwa [Nat.zero_add] at this
    refine (qnl hn ul u5 hok I).mono ?_
    rintro e W' ⟨kk, rfl, rfl, J⟩
    refine ⟨rfl, J.fr, false, ?_⟩
    obtain ⟨lo1, _, _, ds, d1, d2, d3, d4⟩ := J.own
    rw [List.take_length] at d1
    refine ⟨_, by
      simp only [RepD]
      refine ⟨⟨some ⟨B, 0, none⟩, l.length, cap, 5, ds⟩, rfl, ⟨qj9 l 1, rfl, by simp, (fun h => by cases h), (fun x hx => ?_), (fun h => by cases h), d1⟩, rfl⟩
      simp only [Option.some.injEq] at hx
      subst hx
      refine ⟨h2, fun j v hj => ?_⟩
      have := d4 j v hj
      rwa [Addr.add_mid], fun A hA => ?_⟩
    rcases List.mem_cons.1 hA with rfl | hA
    · rfl
    · rw [List.mem_singleton.1 hA]
theorem qky {W : World} {nz : Bool} {l : List (List RC)} {u : Value} {F : Feet} (hn : l.length ≤ 1048576) (hok : ∀ i, i < l.length → okSt (rrow l i) = true) (h : RepD W (.rows nz zSt (qj7 1 l)) u F) (sF : Still F) :
    Calls Try.prog 35 #[u, .int .i64 1] W fun e W' => e = .returned (.int .i64 (qkb 1 l)) ∧ RowKit.Below W.heap.size W W' := by
  have e1 : ev Try.prog An (2000000 + 2) 35 [.rows nz zSt (qj7 1 l), .int .i64 1] = some [.int .i64 (qkb 1 l)] := qb6 2000000 (by omega) nz l hn hok
  have ct : Contract Try.prog 35 [] [.rows nz zSt (qj7 1 l), .int .i64 1] [.int .i64 (qkb 1 l)] := ev_contract good noExt e1
  exact ct.int (args := #[u, .int .i64 1]) (two h qlf) (sF.append Still.nil)
end Go.Proofs.Ytcaapedadpnjoaa
end
section
namespace Go.Proofs.Ytcaapedadpnjoaa
open Go Go.RowKit Go.Ev
theorem qkr {r : List RC} (h : okSt r = true) : qim r := by
  unfold okSt at h
  split at h
  · simp only [Bool.and_eq_true, decide_eq_true_eq] at h
    exact ⟨h.1, h.2.1, h.2.2.1, h.2.2.2⟩
  · cases h
theorem qea {r : List RC} (h : okSt r = true) : cpSt (cpSt r) = cpSt r := by
  unfold okSt at h
  split at h
  · rfl
  · cases h
theorem qgw {W : World} {nz nz' : Bool} {l : List (List RC)} {u v : Value} {F G : Feet} (h1 : RepD W (.rows nz zSt l) u F) (h2 : RepD W (.rows nz' zSt l) v G) (s1 : Still F) (s2 : Still G) (hl : l.length ≤ 1048576) (hok : ∀ i, i < l.length → okSt (rrow l i) = true) :
    Calls Try.prog 26 #[u, v] W fun e W' => e = .returned (.bool true) ∧ RowKit.Below W.heap.size W W' := by
  have e1 : ev Try.prog An (2000000 + 5) 26 [.rows nz zSt l, .rows nz' zSt l] = some [.bool true] := qb3 2000000 (by omega) nz nz' l l (by omega) rfl (fun i hi => qkr (hok i hi)) (fun i hi => ⟨rfl, rfl, rfl, rfl, rfl⟩)
  have ct : Contract Try.prog 26 [] [.rows nz zSt l, .rows nz' zSt l] [.bool true] := ev_contract good noExt e1
  exact ct.bool (args := #[u, v]) (two h1 h2) (s1.append s2)
theorem Out.len {W : World} {lo hi : Nat} {q : Bool} {t : Int} {l : List (List RC)} {u : Value} (h : Out W lo hi (cond q (l.map (stp t)) []) u) (hl : l.length ≤ 1048576) : (cond q (l.map (stp t)) []).length ≤ 1048576 := by
  cases q
  · exact Nat.zero_le _
  · show (l.map (stp t)).length ≤ _
    rw [List.length_map]; exact hl
end Go.Proofs.Ytcaapedadpnjoaa
end
section
namespace Go.Proofs.Ytcaapedadpnjoaa
open Go Go.RowKit Go.Ev
set_option maxRecDepth 100000 in
set_option maxHeartbeats 8000000 in
theorem law_StepAll {az : Bool} {a : List (List RC)} {t : Int} (ha : (a.length : Int) ≤ 9223372036854775807) (hr : ∀ i, i < a.length → All2 RcFit zSt (rrow a i)) (w : World) (va : Value) (FA : Feet)
    (hA : RepD w (.rows az zSt a) va FA) (sA : Still FA) :
    Calls Try.prog 7 #[va, .int .i64 t] w fun e w' => e = .returned (.bool true) ∧ RowKit.Below w.heap.size w w' := by
  obtain ⟨y, ey, py⟩ := qce 2000000 (by omega) az a ha (fun i hi => (qll (hr i hi)).1)
  have c22 : Contract Try.prog 22 [] [.rows az zSt a, .int .i64 1048576] [.int .i64 y] := ev_contract good noExt ey
  have k22 := c22.int (args := #[va, .int .i64 1048576]) (two hA qlf) (sA.append Still.nil)
  go_enter Try.func7, Try.ntmps7
  go_wp2_with (go_at_call 22; refine k22.mono ?_)
  rintro e W1 ⟨rfl, b1⟩
  clear k22 c22 ey
  by_cases hy : y < 0
  · have hd : decide (y < 0) = true := decide_eq_true hy
    go_wp2
    go_ret
    exact ⟨rfl, b1⟩
  have hd : decide (y < 0) = false := decide_eq_false hy
  obtain ⟨y0, y1, ha', hln⟩ := py.resolve_left hy
  have hal : a.length ≤ 1048576 := by omega
  have hok : ∀ i, i < a.length → okSt (rrow a i) = true := fun i hi => ((qll (hr i hi)).2 (hln i hi)).1
  have ml : (a.map cpSt).length = a.length := List.length_map ..
  have hok2 : ∀ i, i < (a.map cpSt).length → okSt (rrow (a.map cpSt) i) = true := fun i hi => by
    rw [ml] at hi; rw [qlm hi]; exact qkp (hok i hi)
  have hcp2 : ∀ i, i < (a.map cpSt).length → cpSt (rrow (a.map cpSt) i) = rrow (a.map cpSt) i := fun i hi => by
    rw [ml] at hi; rw [qlm hi]; exact qea (hok i hi)
  have hln2 : ∀ i, i < (a.map cpSt).length → qim (rrow (a.map cpSt) i) := fun i hi => qkr (hok2 i hi)
  have hl2 : (a.map cpSt).length ≤ 1048576 := by omega
  obtain ⟨q, hq⟩ : ∃ q, ∃ _ : Unit, q = (askE (a.map cpSt) && decide (0 ≤ t)) := ⟨_, (), rfl⟩
  have kS : ∀ {w : World} {v : Value} {F : Feet}, RepD w (.rows false zSt (a.map cpSt)) v F → Still F → Calls Try.prog 34 #[v, .int .i64 t] w fun e w' => ∃ u, e = .returned (.tuple #[u, .bool q]) ∧ Out w' w.heap.size w'.heap.size (cond q ((a.map cpSt).map (stp t)) []) u ∧ RowKit.Below w.heap.size w w' := by
    obtain ⟨_, h⟩ := hq; subst h
    exact fun hd sF => qmn hl2 hok2 hcp2 hln2 hd sF
  have kI : ∀ {w : World} {v : Value} {F : Feet}, RepD w (.rows false zSt (a.map cpSt)) v F → Still F → Calls Try.prog 31 #[v, .int .i64 t] w fun e w' => ∃ u, e = .returned (.tuple #[u, .bool q]) ∧ Out w' w.heap.size w'.heap.size (cond q ((a.map cpSt).map (stp t)) []) u ∧ RowKit.Below w.heap.size w w' := by
    obtain ⟨_, h⟩ := hq; subst h
    exact fun hd sF => qmm hl2 hok2 hcp2 hln2 hd sF
  have hlen : (cond q ((a.map cpSt).map (stp t)) []).length ≤ 1048576 := by
    cases q
    · exact Nat.zero_le _
    · show ((a.map cpSt).map (stp t)).length ≤ _
      rw [List.length_map]; exact hl2
  obtain ⟨lO, hlO⟩ : ∃ lO, lO = cond q ((a.map cpSt).map (stp t)) [] := ⟨_, rfl⟩
  rw [← hlO] at kS kI hlen
  clear hlO hq hcp2 hln2
  have k24 := qnr hal hok (RepD.below b1 hA)
  go_wp2_with (go_at_call 24; refine k24.mono ?_)
  rintro e W2 ⟨rfl, I2⟩
  have b2 := bel b1 (qnq I2)
  obtain ⟨G2, r2, s2⟩ := qns I2
  clear k24 I2
  have k34 := kS r2 s2
  go_wp2_with (go_at_call 34; refine k34.mono ?_)
  rintro e W3 ⟨uw, rfl, Ow, b3'⟩
  have b3 := bel b2 b3'
  have okO := Ow.ok
  clear k34 kS r2 s2 b3' b1
  have b2s := b2.size
  have b3s := b3.size
  have k24 := qnr hal hok (RepD.below b3 hA)
  go_wp2_with (go_at_call 24; refine k24.mono ?_)
  rintro e W4 ⟨rfl, I4⟩
  have b4' := qnq I4
  have b4 := bel b3 b4'
  have Ow := Ow.below b4'
  obtain ⟨G4, r4, s4⟩ := qns I4
  clear k24 b2
  have k31 := kI r4 s4
  go_wp2_with (go_at_call 31; refine k31.mono ?_)
  rintro e W5 ⟨ug, rfl, Og, b5'⟩
  have b5 := bel b4 b5'
  have Ow := Ow.below b5'
  have c5 : RowKit.Below W4.heap.size W4 W5 := b5'
  have r4 := RepD.below b5' r4
  clear k31 b5'
  obtain ⟨nw, Fw, p0, t0⟩ := Ow.rep
  obtain ⟨ng, Fg, h0, u0⟩ := Og.rep
  have k26 := qgw h0 p0 u0 t0 hlen okO
  go_wp2_with (go_at_call 26; refine k26.mono ?_)
  rintro e W7 ⟨rfl, b7'⟩
  have b7 := bel b5 b7'
  have Ow := Ow.below b7'
  have Og := Og.below b7'
  have c7 := bel c5 b7'
  have r4 := RepD.below b7' r4
  clear k26 p0 h0 t0 u0 b7' b5 b4 b3 c5
  have k24 := qnr hal hok (RepD.below b7 hA)
  go_wp2_with (go_at_call 24; refine k24.mono ?_)
  rintro e W8 ⟨rfl, I8⟩
  have b8' := qnq I8
  obtain ⟨G8, r8, s8⟩ := qns I8
  have r4 := RepD.below b8' r4
  clear k24 I8
  have k26 := qgw r4 r8 s4 s8 hl2 hok2
  go_wp2_with (go_at_call 26; refine k26.mono ?_)
  rintro e W9 ⟨rfl, b9'⟩
  have b9' := bel b8' b9'
  have b9 := bel b7 b9'
  have Ow := Ow.below b9'
  have Og := Og.below b9'
  have c9 := bel c7 b9'
  clear k26 r4 r8 s4 s8 b8' b7 b9' c7
  obtain ⟨uss, ul, u5, T⟩ := qnj I4 c9
  have z4 := (qnq I4).size
  have k27 := qnk (by omega) u5 T
  rw [ul] at k27
  go_wp2_with (go_at_call 27; refine k27.mono ?_)
  rintro e W10 ⟨kk, rfl, kk0, f10⟩
  have hkk : decide (kk < 0) = false := decide_eq_false (by omega)
  have b10 := belF b9 f10 (fun b off h => by omega)
  have Ow := Ow.frame f10 (fun b off _ h1 h2 => by omega)
  have Og := Og.frame f10 (fun b off _ h1 h2 => by omega)
  clear k27 T f10 b9 c9 uss ul u5 I4
  obtain ⟨nw, Fw, p0, t0⟩ := Ow.rep
  obtain ⟨ng, Fg, h0, u0⟩ := Og.rep
  have k26 := qgw h0 p0 u0 t0 hlen okO
  go_wp2_with (go_at_call 26; refine k26.mono ?_)
  rintro e W11 ⟨rfl, b11'⟩
  have b11 := bel b10 b11'
  have Ow := Ow.below b11'
  have Og := Og.below b11'
  clear k26 p0 h0 t0 u0 b11' b10
  obtain ⟨ms, hms⟩ : ∃ ms, ∃ _ : Unit, ms = qkb 1 lO := ⟨_, (), rfl⟩
  have v0 : 1 ≤ ms := by
    obtain ⟨_, e⟩ := hms
    rw [e]
    exact (qkc okO).1
  have k27 := qkz hlen Og
  replace k27 : Calls Try.prog 27 #[ug, .int .i64 1] W11 fun e W' => e = .returned (.int .i64 ms) ∧ Fr (fun b _ => W4.heap.size ≤ b ∧ b < W5.heap.size) W11 W' ∧ ∃ nz F, RepD W' (.rows nz zSt (qj7 1 lO)) ug F ∧ Still F := by obtain ⟨_, e⟩ := hms; rw [e]; exact k27
  go_wp2_with (go_at_call 27; refine k27.mono ?_)
  rintro e W13 ⟨rfl, f13, ng, Fg, h0, u0⟩
  have b13 := belF b11 f13 (fun b off h => by omega)
  have Ow := Ow.frame f13 (fun b off _ h1 h2 => by omega)
  clear k27 f13 b11 Og
  have n0 : decide (ms < 0) = false := decide_eq_false (by omega)
  have k29 := qky hlen okO h0 u0
  replace k29 : Calls Try.prog 35 #[ug, .int .i64 1] W13 fun e W' => e = .returned (.int .i64 ms) ∧ RowKit.Below W13.heap.size W13 W' := by obtain ⟨_, e⟩ := hms; rw [e]; exact k29
  go_wp2_with (go_at_call 35; refine k29.mono ?_)
  rintro e W16 ⟨rfl, b16'⟩
  have b16 := bel b13 b16'
  have Ow := Ow.below b16'
  have h0 := RepD.below b16' h0
  clear k29 b16' b13
  have k24 := qnr hal hok (RepD.below b16 hA)
  go_wp2_with (go_at_call 24; refine k24.mono ?_)
  rintro e W17 ⟨rfl, I17⟩
  have b17' := qnq I17
  obtain ⟨G17, r17, s17⟩ := qns I17
  clear k24 I17
  have k31 := kI r17 s17
  go_wp2_with (go_at_call 31; refine k31.mono ?_)
  rintro e W18 ⟨uj, rfl, Oj, b18'⟩
  have b18' := bel b17' b18'
  have b18 := bel b16 b18'
  have Ow := Ow.below b18'
  have h0 := RepD.below b18' h0
  clear k31 r17 s17 b17' b18' b16
  obtain ⟨nw, Fw, p0, t0⟩ := Ow.rep
  obtain ⟨nj, Fj, x0, v1⟩ := Oj.rep
  have k26 := qgw x0 p0 v1 t0 hlen okO
  go_wp2_with (go_at_call 26; refine k26.mono ?_)
  rintro e W20 ⟨rfl, b20'⟩
  have b20 := bel b18 b20'
  have h0 := RepD.below b20' h0
  clear k26 p0 x0 t0 v1 Ow Oj b20' b18
  have k29 := qky hlen okO h0 u0
  replace k29 : Calls Try.prog 35 #[ug, .int .i64 1] W20 fun e W' => e = .returned (.int .i64 ms) ∧ RowKit.Below W20.heap.size W20 W' := by obtain ⟨_, e⟩ := hms; rw [e]; exact k29
  go_wp2_with (go_at_call 35; refine k29.mono ?_)
  rintro e W22 ⟨rfl, b22'⟩
  have b22 := bel b20 b22'
  clear k29 h0
  go_wp2
  go_ret
  exact ⟨rfl, b22⟩
end Go.Proofs.Ytcaapedadpnjoaa
end
