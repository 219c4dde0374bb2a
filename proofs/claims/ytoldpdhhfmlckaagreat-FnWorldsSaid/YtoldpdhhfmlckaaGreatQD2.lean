/- What the program's functions compute, and plain facts of it (part 2). No condition beyond those that each theorem states. -/
import Derived.Test.YtoldpdhhfmlckaaGreatQD1
set_option linter.unusedVariables false
set_option linter.unusedSimpArgs false
section
namespace Go.Proofs.YtoldpdhhfmlckaaGreat
open Go.RowKit Go.Lib Go.Ev Go.Shelf
def qak (Q : Nat → Ending → World → Prop) (en : Ending) (w' : World) : Prop := ∃ q, Q q en w'

theorem qn5 : (Tryz.prog.info? 3).map (fun i => (i.zero, i.size, i.bytes)) = some (some (.int .i64 0), 1, 8) := by kernel_rfl
theorem qzc : (Tryz.prog.info? 3).map (·.size) = some 1 := by kernel_rfl
theorem qzw : Tryz.prog.underlying 27 = some (.slice 3) := by kernel_rfl
theorem qy3 : ∀ w, (Go.sizeOf 3).run Tryz.prog w = .ok 1 w := fun w => by
  obtain ⟨i0, hi, h0, h1, h2⟩ := info_parts qn5
  simp [Go.sizeOf, typeInfo, hi, h1]

set_option maxHeartbeats 4000000 in
set_option maxRecDepth 100000 in
theorem qvb (g n c i j m vc c1 : Nat) (a b1 : Addr) (w w1 : World) (hij : i < j) (hj : j = n) (hnc : n ≤ c) (hn : n ≤ 1099511627776) (hc : c ≤ 9223372036854775807) (hm : n ≤ i + m) (hmb : m ≤ 1099511627776)
    (hr : (Builtin.append_ #[27, 27] 27 #[.slice (some ⟨g, 0, none⟩) i c, .slice (some a) m vc]).run Tryz.prog w = .ok (.slice (some b1) (i + m) c1) w1) :
    Calls Tryz.prog 240 #[.slice (some ⟨g, 0, none⟩) n c, .int .i64 i, .int .i64 j, .slice (some a) m vc] w fun en w' => en = .returned (.slice (some b1) (i + m) c1) ∧ w' = w1 := by
  subst hj
  have t0 := qzw
  have hz1 : ¬ ((i : Int) = (j : Int)) := by omega
  have hb6 : j ≤ j := by omega
  have hb7 : (j : Int) ≤ (j : Int) := by omega
  have mixed : Tryz.prog.follows Departure.mixedOrders = true := by kernel_rfl
  have hlen : IntKind.i64.wrap ((i : Int) + (m : Int)) = (i : Int) + (m : Int) := by rw [IntKind.wrap_i64]; omega
  have hb1 : (0 : Int) ≤ (i : Int) + (m : Int) := by omega
  have htn : ((i : Int) + (m : Int)).toNat = i + m := by omega
  have hb8 : ¬ ((i + m : Nat) < j) := by omega
  go_enter Tryz.func240, Tryz.ntmps240
  go_wp2_with (at_builtin; refine Lib.wpList_append_run _ rfl _ _ _ _ rfl _ _ rfl rfl _ _ hr ?_)
  go_ret
  exact ⟨rfl, rfl⟩
set_option maxHeartbeats 4000000 in
set_option maxRecDepth 100000 in
theorem qu9 (g n c i j m vc c1 : Nat) (a b1 : Addr) (w w1 w2 : World) (hij : i < j) (hj : j = n) (hnc : n ≤ c) (hn : n ≤ 1099511627776) (hc : c ≤ 9223372036854775807) (hm : i + m < n) (hmb : m ≤ 1099511627776)
    (hr : (Builtin.append_ #[27, 27] 27 #[.slice (some ⟨g, 0, none⟩) i c, .slice (some a) m vc]).run Tryz.prog w = .ok (.slice (some b1) (i + m) c1) w1)
    (hk : ∀ ty kc, (Builtin.clear_ #[27] ty #[.slice (some ⟨g, i + m, none⟩) (n - (i + m)) kc]).run Tryz.prog w1 = .ok (.tuple #[]) w2) :
    Calls Tryz.prog 240 #[.slice (some ⟨g, 0, none⟩) n c, .int .i64 i, .int .i64 j, .slice (some a) m vc] w fun en w' => en = .returned (.slice (some b1) (i + m) c1) ∧ w' = w2 := by
  subst hj
  have t0 := qzw
  have hz1 : ¬ ((i : Int) = (j : Int)) := by omega
  have hb6 : j ≤ j := by omega
  have hb7 : (j : Int) ≤ (j : Int) := by omega
  have mixed : Tryz.prog.follows Departure.mixedOrders = true := by kernel_rfl
  have hlen : IntKind.i64.wrap ((i : Int) + (m : Int)) = (i : Int) + (m : Int) := by rw [IntKind.wrap_i64]; omega
  have hb1 : (0 : Int) ≤ (i : Int) + (m : Int) := by omega
  have htn : ((i : Int) + (m : Int)).toNat = i + m := by omega
  have hb8 : (i + m : Nat) < j := by omega
  have hb9 : ¬ (c = i + m) := by omega
  go_enter Tryz.func240, Tryz.ntmps240
  go_wp2_with (at_builtin; refine Lib.wpList_append_run _ rfl _ _ _ _ rfl _ _ rfl rfl _ _ hr ?_)
  go_ret
  exact ⟨rfl, rfl⟩
set_option maxHeartbeats 4000000 in
set_option maxRecDepth 100000 in
theorem qvj (g n c i j m vc : Nat) (a : Addr) (w : World) (W1 W2 : Nat → World) (hij : i < j) (hj : j < n) (hnc : n ≤ c) (hn : n ≤ 1099511627776) (hc : c ≤ 9223372036854775807) (hm : j < i + m) (hmb : m ≤ 1099511627776) (hroom : i + m + (n - j) ≤ c)
    (hov : ∀ q lb cb, (callFunc 257 #[.slice (some ⟨g, i + m, none⟩) lb cb, .slice (some a) m vc]).run Tryz.prog (w.drewN q) = .ok (.value (.bool false)) (w.drewN q))
    (hcpa : ∀ q ty dc sc, (Builtin.copy_ #[27, 27] ty #[.slice (some ⟨g, i + m, none⟩) (n - j) dc, .slice (some ⟨g, j, none⟩) (n - j) sc]).run Tryz.prog (w.drewN q) = .ok (goInt (n - j : Nat)) (W1 q))
    (hcpb : ∀ q ty dc, (Builtin.copy_ #[27, 27] ty #[.slice (some ⟨g, i, none⟩) (i + m + (n - j) - i) dc, .slice (some a) m vc]).run Tryz.prog (W1 q) = .ok (goInt m) (W2 q)) :
    Calls Tryz.prog 240 #[.slice (some ⟨g, 0, none⟩) n c, .int .i64 i, .int .i64 j, .slice (some a) m vc] w (qak fun q en w' => en = .returned (.slice (some ⟨g, 0, none⟩) (i + m + (n - j)) c) ∧ w' = W2 q) := by
  have t0 := qzw
  have hz1 : ¬ ((i : Int) = (j : Int)) := by omega
  have hb6 : j ≤ n := by omega
  have hb7 : (j : Int) ≤ (n : Int) := by omega
  have mixed : Tryz.prog.follows Departure.mixedOrders = true := by kernel_rfl
  have hlen : IntKind.i64.wrap ((i : Int) + (m : Int)) = (i : Int) + (m : Int) := by rw [IntKind.wrap_i64]; omega
  have hb1 : (0 : Int) ≤ (i : Int) + (m : Int) := by omega
  have htn : ((i : Int) + (m : Int)).toNat = i + m := by omega
  have hz2 : ¬ ((j : Int) = (n : Int)) := by omega
  have hci : ¬ (c = i) := by omega
  have hcj : ¬ (c = j) := by omega
  have hw0 : IntKind.i64.wrap ((i : Int) + (m : Int) + ((n - j : Nat) : Int)) = (i : Int) + (m : Int) + ((n - j : Nat) : Int) := by rw [IntKind.wrap_i64]; omega
  have hb3 : (i : Int) + (m : Int) ≤ (i : Int) + (m : Int) + ((n - j : Nat) : Int) := by omega
  have hb4 : (i : Int) ≤ (i : Int) + (m : Int) + ((n - j : Nat) : Int) := by omega
  have hcm : ¬ (c = i + m) := by omega
  go_enter Tryz.func240, Tryz.ntmps240
  go_wp2_with fail
  go_quiet (fail)
  go_wp2_with (simp only [hov])
  go_region_law_o (fail)
  go_wp2
  go_ret
  exact ⟨_, rfl, rfl⟩
set_option maxHeartbeats 4000000 in
set_option maxRecDepth 100000 in
theorem qvf (g n c i j m vc : Nat) (a : Addr) (w : World) (W1 W2 W3 : Nat → World) (hij : i < j) (hj : j < n) (hnc : n ≤ c) (hn : n ≤ 1099511627776) (hc : c ≤ 9223372036854775807) (hm : i + m < j) (hmb : m ≤ 1099511627776)
    (hcpa : ∀ q ty dc, (Builtin.copy_ #[27, 27] ty #[.slice (some ⟨g, i, none⟩) (i + m + (n - j) - i) dc, .slice (some a) m vc]).run Tryz.prog (w.drewN q) = .ok (goInt m) (W1 q))
    (hcpb : ∀ q ty dc sc, (Builtin.copy_ #[27, 27] ty #[.slice (some ⟨g, i + m, none⟩) (n - j) dc, .slice (some ⟨g, j, none⟩) (n - j) sc]).run Tryz.prog (W1 q).drew = .ok (goInt (n - j : Nat)) (W2 q))
    (hk : ∀ q ty kc, (Builtin.clear_ #[27] ty #[.slice (some ⟨g, i + m + (n - j), none⟩) (n - (i + m + (n - j))) kc]).run Tryz.prog (W2 q) = .ok (.tuple #[]) (W3 q)) :
    Calls Tryz.prog 240 #[.slice (some ⟨g, 0, none⟩) n c, .int .i64 i, .int .i64 j, .slice (some a) m vc] w (qak fun q en w' => en = .returned (.slice (some ⟨g, 0, none⟩) (i + m + (n - j)) c) ∧ w' = W3 q) := by
  have t0 := qzw
  have hz1 : ¬ ((i : Int) = (j : Int)) := by omega
  have hb6 : j ≤ n := by omega
  have hb7 : (j : Int) ≤ (n : Int) := by omega
  have mixed : Tryz.prog.follows Departure.mixedOrders = true := by kernel_rfl
  have hlen : IntKind.i64.wrap ((i : Int) + (m : Int)) = (i : Int) + (m : Int) := by rw [IntKind.wrap_i64]; omega
  have hb1 : (0 : Int) ≤ (i : Int) + (m : Int) := by omega
  have htn : ((i : Int) + (m : Int)).toNat = i + m := by omega
  have hz2 : ¬ ((j : Int) = (n : Int)) := by omega
  have hci : ¬ (c = i) := by omega
  have hcj : ¬ (c = j) := by omega
  have hw0 : IntKind.i64.wrap ((i : Int) + (m : Int) + ((n - j : Nat) : Int)) = (i : Int) + (m : Int) + ((n - j : Nat) : Int) := by rw [IntKind.wrap_i64]; omega
  have hb3 : (i : Int) + (m : Int) ≤ (i : Int) + (m : Int) + ((n - j : Nat) : Int) := by omega
  have hb4 : (i : Int) ≤ (i : Int) + (m : Int) + ((n - j : Nat) : Int) := by omega
  have hcm : ¬ (c = i + m) := by omega
  have hct : ¬ (c = i + m + (n - j)) := by omega
  have htt : ((i : Int) + (m : Int) + ((n - j : Nat) : Int)).toNat = i + m + (n - j) := by omega
  have hb8 : (i : Int) + (m : Int) + ((n - j : Nat) : Int) ≤ (n : Int) := by omega
  go_enter Tryz.func240, Tryz.ntmps240
  go_wp2_with fail
  go_quiet (fail)
  go_wp2
  go_region_law_o (fail)
  go_wp2
  go_ret
  exact ⟨_, rfl, rfl⟩
set_option maxHeartbeats 4000000 in
set_option maxRecDepth 100000 in
theorem qvh (g n c i j m vc N : Nat) (a : Addr) (w : World) (G : Nat → Nat) (W1 W2 W3 : Nat → World) (hij : i < j) (hj : j < n) (hnc : n ≤ c) (hn : n ≤ 1099511627776) (hc : c ≤ 9223372036854775807) (hmb : m ≤ 1099511627776) (hroom : c < i + m + (n - j)) (hG : ∀ q, i + m + (n - j) ≤ G q)
    (hr : ∀ q, (Builtin.append_ #[27, 3] 27 #[.slice (some ⟨g, 0, none⟩) i c, .int .i64 ((i : Int) + (m : Int) + ((n - j : Nat) : Int) - (i : Int))]).run Tryz.prog (w.drewN q) = .ok (.slice (some ⟨N, 0, none⟩) (i + m + (n - j)) (G q)) (W1 q))
    (hcpa : ∀ q ty dc, (Builtin.copy_ #[27, 27] ty #[.slice (some ⟨N, i, none⟩) (i + m + (n - j) - i) dc, .slice (some a) m vc]).run Tryz.prog (W1 q) = .ok (goInt m) (W2 q))
    (hcpb : ∀ q ty dc sc, (Builtin.copy_ #[27, 27] ty #[.slice (some ⟨N, i + m, none⟩) (n - j) dc, .slice (some ⟨g, j, none⟩) (n - j) sc]).run Tryz.prog (W2 q).drew = .ok (goInt (n - j : Nat)) (W3 q)) :
    Calls Tryz.prog 240 #[.slice (some ⟨g, 0, none⟩) n c, .int .i64 i, .int .i64 j, .slice (some a) m vc] w (qak fun q en w' => en = .returned (.slice (some ⟨N, 0, none⟩) (i + m + (n - j)) (G q)) ∧ w' = W3 q) := by
  have t0 := qzw
  have hz1 : ¬ ((i : Int) = (j : Int)) := by omega
  have hb6 : j ≤ n := by omega
  have hb7 : (j : Int) ≤ (n : Int) := by omega
  have mixed : Tryz.prog.follows Departure.mixedOrders = true := by kernel_rfl
  have hlen : IntKind.i64.wrap ((i : Int) + (m : Int)) = (i : Int) + (m : Int) := by rw [IntKind.wrap_i64]; omega
  have hb1 : (0 : Int) ≤ (i : Int) + (m : Int) := by omega
  have htn : ((i : Int) + (m : Int)).toNat = i + m := by omega
  have hz2 : ¬ ((j : Int) = (n : Int)) := by omega
  have hci : ¬ (c = i) := by omega
  have hcj : ¬ (c = j) := by omega
  have hw0 : IntKind.i64.wrap ((i : Int) + (m : Int) + ((n - j : Nat) : Int)) = (i : Int) + (m : Int) + ((n - j : Nat) : Int) := by rw [IntKind.wrap_i64]; omega
  have hb3 : (i : Int) + (m : Int) ≤ (i : Int) + (m : Int) + ((n - j : Nat) : Int) := by omega
  have hb4 : (i : Int) ≤ (i : Int) + (m : Int) + ((n - j : Nat) : Int) := by omega
  have hgi : ∀ q, ¬ (G q = i) := fun q => by have := hG q; omega
  have hgm : ∀ q, ¬ (G q = i + m) := fun q => by have := hG q; omega
  have hw2 : IntKind.i64.wrap ((i : Int) + (m : Int) + ((n - j : Nat) : Int) - (i : Int)) = (i : Int) + (m : Int) + ((n - j : Nat) : Int) - (i : Int) := by rw [IntKind.wrap_i64]; omega
  go_enter Tryz.func240, Tryz.ntmps240
  go_wp2_with fail
  go_quiet (fail)
  go_wp2_with (at_builtin; refine Lib.wpList_append_run _ rfl _ _ _ _ rfl _ _ rfl rfl _ _ (hr _) ?_)
  go_region_law_o (fail)
  go_wp2
  go_ret
  exact ⟨_, rfl, rfl⟩

theorem qn4 : (Tryz.prog.info? 123).map (fun i => (i.zero, i.size, i.bytes)) = some (some (.agg #[.int .i64 0, .int .i64 0, .int .i64 0]), 3, 24) := by kernel_rfl
theorem qzb : (Tryz.prog.info? 123).map (·.size) = some 3 := by kernel_rfl
theorem qzv : Tryz.prog.underlying 24 = some (.slice 123) := by kernel_rfl
theorem qy2 : ∀ w, (Go.sizeOf 123).run Tryz.prog w = .ok 3 w := fun w => by
  obtain ⟨i0, hi, h0, h1, h2⟩ := info_parts qn4
  simp [Go.sizeOf, typeInfo, hi, h1]

set_option maxHeartbeats 4000000 in
set_option maxRecDepth 100000 in
theorem qva (g n c i j m vc c1 : Nat) (a b1 : Addr) (w w1 : World) (hij : i < j) (hj : j = n) (hnc : n ≤ c) (hn : n ≤ 1099511627776) (hc : c ≤ 9223372036854775807) (hm : n ≤ i + m) (hmb : m ≤ 1099511627776)
    (hr : (Builtin.append_ #[24, 24] 24 #[.slice (some ⟨g, 0, none⟩) i c, .slice (some a) m vc]).run Tryz.prog w = .ok (.slice (some b1) (i + m) c1) w1) :
    Calls Tryz.prog 254 #[.slice (some ⟨g, 0, none⟩) n c, .int .i64 i, .int .i64 j, .slice (some a) m vc] w fun en w' => en = .returned (.slice (some b1) (i + m) c1) ∧ w' = w1 := by
  subst hj
  have t0 := qzv
  have hz1 : ¬ ((i : Int) = (j : Int)) := by omega
  have hb6 : j ≤ j := by omega
  have hb7 : (j : Int) ≤ (j : Int) := by omega
  have mixed : Tryz.prog.follows Departure.mixedOrders = true := by kernel_rfl
  have hlen : IntKind.i64.wrap ((i : Int) + (m : Int)) = (i : Int) + (m : Int) := by rw [IntKind.wrap_i64]; omega
  have hb1 : (0 : Int) ≤ (i : Int) + (m : Int) := by omega
  have htn : ((i : Int) + (m : Int)).toNat = i + m := by omega
  have hb8 : ¬ ((i + m : Nat) < j) := by omega
  go_enter Tryz.func254, Tryz.ntmps254
  go_wp2_with (at_builtin; refine Lib.wpList_append_run _ rfl _ _ _ _ rfl _ _ rfl rfl _ _ hr ?_)
  go_ret
  exact ⟨rfl, rfl⟩
set_option maxHeartbeats 4000000 in
set_option maxRecDepth 100000 in
theorem qu8 (g n c i j m vc c1 : Nat) (a b1 : Addr) (w w1 w2 : World) (hij : i < j) (hj : j = n) (hnc : n ≤ c) (hn : n ≤ 1099511627776) (hc : c ≤ 9223372036854775807) (hm : i + m < n) (hmb : m ≤ 1099511627776)
    (hr : (Builtin.append_ #[24, 24] 24 #[.slice (some ⟨g, 0, none⟩) i c, .slice (some a) m vc]).run Tryz.prog w = .ok (.slice (some b1) (i + m) c1) w1)
    (hk : ∀ ty kc, (Builtin.clear_ #[24] ty #[.slice (some ⟨g, (i + m) * 3, none⟩) (n - (i + m)) kc]).run Tryz.prog w1 = .ok (.tuple #[]) w2) :
    Calls Tryz.prog 254 #[.slice (some ⟨g, 0, none⟩) n c, .int .i64 i, .int .i64 j, .slice (some a) m vc] w fun en w' => en = .returned (.slice (some b1) (i + m) c1) ∧ w' = w2 := by
  subst hj
  have t0 := qzv
  have hz1 : ¬ ((i : Int) = (j : Int)) := by omega
  have hb6 : j ≤ j := by omega
  have hb7 : (j : Int) ≤ (j : Int) := by omega
  have mixed : Tryz.prog.follows Departure.mixedOrders = true := by kernel_rfl
  have hlen : IntKind.i64.wrap ((i : Int) + (m : Int)) = (i : Int) + (m : Int) := by rw [IntKind.wrap_i64]; omega
  have hb1 : (0 : Int) ≤ (i : Int) + (m : Int) := by omega
  have htn : ((i : Int) + (m : Int)).toNat = i + m := by omega
  have hb8 : (i + m : Nat) < j := by omega
  have hb9 : ¬ (c = i + m) := by omega
  go_enter Tryz.func254, Tryz.ntmps254
  go_wp2_with (at_builtin; refine Lib.wpList_append_run _ rfl _ _ _ _ rfl _ _ rfl rfl _ _ hr ?_)
  go_ret
  exact ⟨rfl, rfl⟩
set_option maxHeartbeats 4000000 in
set_option maxRecDepth 100000 in
theorem qvi (g n c i j m vc : Nat) (a : Addr) (w : World) (W1 W2 : Nat → World) (hij : i < j) (hj : j < n) (hnc : n ≤ c) (hn : n ≤ 1099511627776) (hc : c ≤ 9223372036854775807) (hm : j < i + m) (hmb : m ≤ 1099511627776) (hroom : i + m + (n - j) ≤ c)
    (hov : ∀ q lb cb, (callFunc 265 #[.slice (some ⟨g, (i + m) * 3, none⟩) lb cb, .slice (some a) m vc]).run Tryz.prog (w.drewN q) = .ok (.value (.bool false)) (w.drewN q))
    (hcpa : ∀ q ty dc sc, (Builtin.copy_ #[24, 24] ty #[.slice (some ⟨g, (i + m) * 3, none⟩) (n - j) dc, .slice (some ⟨g, (j) * 3, none⟩) (n - j) sc]).run Tryz.prog (w.drewN q) = .ok (goInt (n - j : Nat)) (W1 q))
    (hcpb : ∀ q ty dc, (Builtin.copy_ #[24, 24] ty #[.slice (some ⟨g, (i) * 3, none⟩) (i + m + (n - j) - i) dc, .slice (some a) m vc]).run Tryz.prog (W1 q) = .ok (goInt m) (W2 q)) :
    Calls Tryz.prog 254 #[.slice (some ⟨g, 0, none⟩) n c, .int .i64 i, .int .i64 j, .slice (some a) m vc] w (qak fun q en w' => en = .returned (.slice (some ⟨g, 0, none⟩) (i + m + (n - j)) c) ∧ w' = W2 q) := by
  have t0 := qzv
  have hz1 : ¬ ((i : Int) = (j : Int)) := by omega
  have hb6 : j ≤ n := by omega
  have hb7 : (j : Int) ≤ (n : Int) := by omega
  have mixed : Tryz.prog.follows Departure.mixedOrders = true := by kernel_rfl
  have hlen : IntKind.i64.wrap ((i : Int) + (m : Int)) = (i : Int) + (m : Int) := by rw [IntKind.wrap_i64]; omega
  have hb1 : (0 : Int) ≤ (i : Int) + (m : Int) := by omega
  have htn : ((i : Int) + (m : Int)).toNat = i + m := by omega
  have hz2 : ¬ ((j : Int) = (n : Int)) := by omega
  have hci : ¬ (c = i) := by omega
  have hcj : ¬ (c = j) := by omega
  have hw0 : IntKind.i64.wrap ((i : Int) + (m : Int) + ((n - j : Nat) : Int)) = (i : Int) + (m : Int) + ((n - j : Nat) : Int) := by rw [IntKind.wrap_i64]; omega
  have hb3 : (i : Int) + (m : Int) ≤ (i : Int) + (m : Int) + ((n - j : Nat) : Int) := by omega
  have hb4 : (i : Int) ≤ (i : Int) + (m : Int) + ((n - j : Nat) : Int) := by omega
  have hcm : ¬ (c = i + m) := by omega
  go_enter Tryz.func254, Tryz.ntmps254
  go_wp2_with fail
  go_quiet (fail)
  go_wp2_with (simp only [hov])
  go_region_law_o (fail)
  go_wp2
  go_ret
  exact ⟨_, rfl, rfl⟩
set_option maxHeartbeats 4000000 in
set_option maxRecDepth 100000 in
theorem qve (g n c i j m vc : Nat) (a : Addr) (w : World) (W1 W2 W3 : Nat → World) (hij : i < j) (hj : j < n) (hnc : n ≤ c) (hn : n ≤ 1099511627776) (hc : c ≤ 9223372036854775807) (hm : i + m < j) (hmb : m ≤ 1099511627776)
    (hcpa : ∀ q ty dc, (Builtin.copy_ #[24, 24] ty #[.slice (some ⟨g, (i) * 3, none⟩) (i + m + (n - j) - i) dc, .slice (some a) m vc]).run Tryz.prog (w.drewN q) = .ok (goInt m) (W1 q))
    (hcpb : ∀ q ty dc sc, (Builtin.copy_ #[24, 24] ty #[.slice (some ⟨g, (i + m) * 3, none⟩) (n - j) dc, .slice (some ⟨g, (j) * 3, none⟩) (n - j) sc]).run Tryz.prog (W1 q).drew = .ok (goInt (n - j : Nat)) (W2 q))
    (hk : ∀ q ty kc, (Builtin.clear_ #[24] ty #[.slice (some ⟨g, (i + m + (n - j)) * 3, none⟩) (n - (i + m + (n - j))) kc]).run Tryz.prog (W2 q) = .ok (.tuple #[]) (W3 q)) :
    Calls Tryz.prog 254 #[.slice (some ⟨g, 0, none⟩) n c, .int .i64 i, .int .i64 j, .slice (some a) m vc] w (qak fun q en w' => en = .returned (.slice (some ⟨g, 0, none⟩) (i + m + (n - j)) c) ∧ w' = W3 q) := by
  have t0 := qzv
  have hz1 : ¬ ((i : Int) = (j : Int)) := by omega
  have hb6 : j ≤ n := by omega
  have hb7 : (j : Int) ≤ (n : Int) := by omega
  have mixed : Tryz.prog.follows Departure.mixedOrders = true := by kernel_rfl
  have hlen : IntKind.i64.wrap ((i : Int) + (m : Int)) = (i : Int) + (m : Int) := by rw [IntKind.wrap_i64]; omega
  have hb1 : (0 : Int) ≤ (i : Int) + (m : Int) := by omega
  have htn : ((i : Int) + (m : Int)).toNat = i + m := by omega
  have hz2 : ¬ ((j : Int) = (n : Int)) := by omega
  have hci : ¬ (c = i) := by omega
  have hcj : ¬ (c = j) := by omega
  have hw0 : IntKind.i64.wrap ((i : Int) + (m : Int) + ((n - j : Nat) : Int)) = (i : Int) + (m : Int) + ((n - j : Nat) : Int) := by rw [IntKind.wrap_i64]; omega
  have hb3 : (i : Int) + (m : Int) ≤ (i : Int) + (m : Int) + ((n - j : Nat) : Int) := by omega
  have hb4 : (i : Int) ≤ (i : Int) + (m : Int) + ((n - j : Nat) : Int) := by omega
  have hcm : ¬ (c = i + m) := by omega
  have hct : ¬ (c = i + m + (n - j)) := by omega
  have htt : ((i : Int) + (m : Int) + ((n - j : Nat) : Int)).toNat = i + m + (n - j) := by omega
  have hb8 : (i : Int) + (m : Int) + ((n - j : Nat) : Int) ≤ (n : Int) := by omega
  go_enter Tryz.func254, Tryz.ntmps254
  go_wp2_with fail
  go_quiet (fail)
  go_wp2
  go_region_law_o (fail)
  go_wp2
  go_ret
  exact ⟨_, rfl, rfl⟩
set_option maxHeartbeats 4000000 in
set_option maxRecDepth 100000 in
theorem qvg (g n c i j m vc N : Nat) (a : Addr) (w : World) (G : Nat → Nat) (W1 W2 W3 : Nat → World) (hij : i < j) (hj : j < n) (hnc : n ≤ c) (hn : n ≤ 1099511627776) (hc : c ≤ 9223372036854775807) (hmb : m ≤ 1099511627776) (hroom : c < i + m + (n - j)) (hG : ∀ q, i + m + (n - j) ≤ G q)
    (hr : ∀ q, (Builtin.append_ #[24, 3] 24 #[.slice (some ⟨g, 0, none⟩) i c, .int .i64 ((i : Int) + (m : Int) + ((n - j : Nat) : Int) - (i : Int))]).run Tryz.prog (w.drewN q) = .ok (.slice (some ⟨N, 0, none⟩) (i + m + (n - j)) (G q)) (W1 q))
    (hcpa : ∀ q ty dc, (Builtin.copy_ #[24, 24] ty #[.slice (some ⟨N, (i) * 3, none⟩) (i + m + (n - j) - i) dc, .slice (some a) m vc]).run Tryz.prog (W1 q) = .ok (goInt m) (W2 q))
    (hcpb : ∀ q ty dc sc, (Builtin.copy_ #[24, 24] ty #[.slice (some ⟨N, (i + m) * 3, none⟩) (n - j) dc, .slice (some ⟨g, (j) * 3, none⟩) (n - j) sc]).run Tryz.prog (W2 q).drew = .ok (goInt (n - j : Nat)) (W3 q)) :
    Calls Tryz.prog 254 #[.slice (some ⟨g, 0, none⟩) n c, .int .i64 i, .int .i64 j, .slice (some a) m vc] w (qak fun q en w' => en = .returned (.slice (some ⟨N, 0, none⟩) (i + m + (n - j)) (G q)) ∧ w' = W3 q) := by
  have t0 := qzv
  have hz1 : ¬ ((i : Int) = (j : Int)) := by omega
  have hb6 : j ≤ n := by omega
  have hb7 : (j : Int) ≤ (n : Int) := by omega
  have mixed : Tryz.prog.follows Departure.mixedOrders = true := by kernel_rfl
  have hlen : IntKind.i64.wrap ((i : Int) + (m : Int)) = (i : Int) + (m : Int) := by rw [IntKind.wrap_i64]; omega
  have hb1 : (0 : Int) ≤ (i : Int) + (m : Int) := by omega
  have htn : ((i : Int) + (m : Int)).toNat = i + m := by omega
  have hz2 : ¬ ((j : Int) = (n : Int)) := by omega
  have hci : ¬ (c = i) := by omega
  have hcj : ¬ (c = j) := by omega
  have hw0 : IntKind.i64.wrap ((i : Int) + (m : Int) + ((n - j : Nat) : Int)) = (i : Int) + (m : Int) + ((n - j : Nat) : Int) := by rw [IntKind.wrap_i64]; omega
  have hb3 : (i : Int) + (m : Int) ≤ (i : Int) + (m : Int) + ((n - j : Nat) : Int) := by omega
  have hb4 : (i : Int) ≤ (i : Int) + (m : Int) + ((n - j : Nat) : Int) := by omega
  have hgi : ∀ q, ¬ (G q = i) := fun q => by have := hG q; omega
  have hgm : ∀ q, ¬ (G q = i + m) := fun q => by have := hG q; omega
  have hw2 : IntKind.i64.wrap ((i : Int) + (m : Int) + ((n - j : Nat) : Int) - (i : Int)) = (i : Int) + (m : Int) + ((n - j : Nat) : Int) - (i : Int) := by rw [IntKind.wrap_i64]; omega
  go_enter Tryz.func254, Tryz.ntmps254
  go_wp2_with fail
  go_quiet (fail)
  go_wp2_with (at_builtin; refine Lib.wpList_append_run _ rfl _ _ _ _ rfl _ _ rfl rfl _ _ (hr _) ?_)
  go_region_law_o (fail)
  go_wp2
  go_ret
  exact ⟨_, rfl, rfl⟩
end Go.Proofs.YtoldpdhhfmlckaaGreat
end
section
namespace Go.Proofs.YtoldpdhhfmlckaaGreat
open Go.RowKit Go.Lib Go.Ev Go.Shelf
theorem qns (w : World) (q : Nat) : Fr (fun _ _ => False) w (w.drewN q) := ⟨rfl, rfl, rfl, Nat.le_refl _, fun _ _ => .inr (.inl rfl)⟩

theorem q0p : ∀ w, (zeroValue 3).run Tryz.prog w = .ok (.int .i64 0) w := fun w => by
  obtain ⟨i0, hi, h0, h1, h2⟩ := info_parts qn5
  simp [zeroValue, typeInfo, hi, h0]
set_option maxHeartbeats 1000000 in
set_option maxRecDepth 100000 in
theorem qvd (w : World) (g n c i j m vc : Nat) (a : Addr) (xs vs : List Value) (e' : TypeId) (hij : i < j) (hj : j ≤ n) (hm : 1 ≤ m) (hne : i + m ≠ j) (hn : n ≤ 549755813888) (hmb : m ≤ 549755813888)
    (own : w.ownsRow 0 e' 1 (.slice (some ⟨g, 0, none⟩) n c) n xs) (hva : a.block ≠ g) (hvl : vs.length = m * 1) (hv : ∀ q v, vs[q]? = some v → w.cell? (a.add q) = some v)
    (h1c : ∀ v ∈ xs, v.oneCell' = true) (h1v : ∀ v ∈ vs, v.oneCell' = true) :
    Calls Tryz.prog 240 #[.slice (some ⟨g, 0, none⟩) n c, .int .i64 i, .int .i64 j, .slice (some a) m vc] w (RepPost 1 w g (i + m + (n - j)) (xs.take (i * 1) ++ vs ++ xs.drop (j * 1))) := by
  have own0 := own
  obtain ⟨hxl, hx | ⟨g', cap, cur, e1, _, hg, hnc, hcm, hcs, htk⟩⟩ := own
  · simp at hx
  simp only [Value.slice.injEq, Option.some.injEq, Addr.mk.injEq, and_true, true_and] at e1
  obtain ⟨rfl, rfl⟩ := e1
  have hcm' := hcm
  unfold maxLen at hcm'
  obtain ⟨i0, hi, hz0, hzs, hzb⟩ := info_parts qn5
  have hlt : g < w.heap.size := (Array.getElem?_eq_some_iff.1 hg).1
  have hcur : cur.toList.length = c * 1 := by rw [Array.length_toList]; exact hcs
  have htA : xs.take (i * 1) = cur.toList.take (i * 1) := by rw [← htk, take_take_le _ (by omega)]
  have h1z : ∀ n, ∀ v ∈ (Builtin.zeroCells ((.int .i64 0) : Value).cells n).toList, v.oneCell' = true := fun n => zeroCells_oneCell (by intro v hv; simp [Value.cells] at hv; rcases hv with rfl | rfl | rfl <;> rfl) n
  have lz : ∀ n, (Builtin.zeroCells ((.int .i64 0) : Value).cells n).toList.length = n * 1 := fun n => by simp [Builtin.zeroCells, Value.cells]
  by_cases hjn : j = n
  · have hys : xs.take (i * 1) ++ vs ++ xs.drop (j * 1) = xs.take (i * 1) ++ vs := by rw [List.drop_of_length_le (by omega), List.append_nil]
    have owni : w.ownsRow 0 e' i0.size (.slice (some ⟨g, 0, none⟩) i c) i (xs.take (i * 1)) := by
      rw [hzs]; exact own_make hg (by rw [List.length_take]; omega) (by omega) hcm hcs (by rw [htA])
    obtain ⟨u', w1, e2, hr, hown, hfr, _, hblk⟩ := append_any (P := Tryz.prog) (w := w) (t := 27) (t2 := 27) (ty := 27) (e := 3) (e' := e') (d2 := .slice 3) (i := i0) (z := (.int .i64 0)) qzw qzw (fun k h => by cases h) hi hz0 (by rw [hzs]; rfl) (by omega) (by omega)
      (u := .slice (some ⟨g, 0, none⟩) i c) (x := .slice (some a) m vc) (n := i) (m := m) (xs := xs.take (i * 1)) (news := vs) rfl
      (fun w1 h => by
        rw [hzs]
        rcases h with rfl | rfl
        · exact run_firstCells_some w1 1 m a m vc vs hvl hv
        · exact run_firstCells_some w.drew 1 m a m vc vs hvl hv) (by rw [hvl, hzs]) h1v owni (by unfold bigLen; omega)
    have hfr' : Fr (fun b _ => b = g) w w1 := hfr.mono fun x y _ h => by simp [Value.ownBlock] at h; exact h.symm
    rw [hzs] at hown
    have hown0 := hown
    obtain ⟨_, ⟨_, h0⟩ | ⟨g1, cap1, cur1, rfl, _⟩⟩ := hown
    · omega
    have hblk' : ∀ b, (Value.slice (some ⟨g1, 0, none⟩) (i + m) cap1).ownBlock = some b → b = g ∨ w.heap.size ≤ b := fun b hb => (hblk b hb).imp (fun h => by simp [Value.ownBlock] at h; exact h.symm) id
    by_cases hcut : i + m < n
    · obtain ⟨cu, hcu, hcz⟩ := fr_at hfr' hg
      have hfit : (i + m) * 1 + (Builtin.zeroCells ((.int .i64 0) : Value).cells (n - (i + m))).toList.length ≤ cu.size := by rw [lz]; omega
      refine (qu9 g n c i j m vc cap1 a ⟨g1, 0, none⟩ w w1 _ hij hjn hnc (by omega) hcm' hcut (by omega) hr (fun ty kc => run_clear_rows w1 27 3 ty (.int .i64 0) qzw q0p h1z g (i + m) (n - (i + m)) kc (by omega) cu e' hcu (by omega))).mono ?_
      rintro en w' ⟨rfl, rfl⟩
      refine ⟨_, rfl, ⟨e2, ?_⟩, hfr'.trans (fr_row hcu (spl_size (by omega))), hblk'⟩
      rw [hys, show i + m + (n - j) = i + m by omega]
      exact own_clear hown0 hcu (by omega) (by omega)
    · refine (qvb g n c i j m vc cap1 a ⟨g1, 0, none⟩ w w1 hij hjn hnc (by omega) hcm' (by omega) (by omega) hr).mono ?_
      rintro en w' ⟨rfl, rfl⟩
      refine ⟨_, rfl, ⟨e2, ?_⟩, hfr', hblk'⟩
      rw [hys, show i + m + (n - j) = i + m by omega]
      exact hown0
  · have hj' : j < n := by omega
    obtain ⟨cs, hcsd⟩ : ∃ cs, cs = xs.drop (j * 1) := ⟨_, rfl⟩
    have hcl : cs.length = (n - j) * 1 := by rw [hcsd, List.length_drop]; omega
    have h1s : ∀ v ∈ cs, v.oneCell' = true := fun v hv => h1c v (by rw [hcsd] at hv; exact List.mem_of_mem_drop hv)
    have htd : (cur.toList.drop (j * 1)).take ((n - j) * 1) = cs := by rw [hcsd, ← htk, List.drop_take]; congr 1; omega
    have hys : (xs.take (i * 1) ++ vs ++ cs).length = (i + m + (n - j)) * 1 := by
      rw [List.length_append, List.length_append, List.length_take]; omega
    rw [← hcsd]
    have hmin : Nat.min m (i + m + (n - j) - i) = m := by simp only [Nat.min_def]; split <;> omega
    have hmin2 : Nat.min (n - j) (n - j) = n - j := Nat.min_self _
    by_cases hroom : i + m + (n - j) ≤ c
    · by_cases hgr : j < i + m
      · have hfa : (i + m) * 1 + cs.length ≤ cur.size := by omega
        have hfb : i * 1 + vs.length ≤ (spl cur ((i + m) * 1) cs).size := by rw [spl_size hfa]; omega
        obtain ⟨tB, kB, hsb, hkB⟩ := shape_of (by omega) hv
        refine (qvj g n c i j m vc a w (fun q => (w.drewN q).setRow g (spl cur ((i + m) * 1) cs)) (fun q => ((w.drewN q).setRow g (spl cur ((i + m) * 1) cs)).setRow g (spl (spl cur ((i + m) * 1) cs) (i * 1) vs)) hij hj' hnc (by omega) hcm' hgr (by omega) hroom ?_ ?_ ?_).mono ?_
        · intro q lb cb
          rw [run_callFunc_extern Tryz.func257 (by kernel_rfl) (by kernel_rfl) (by kernel_rfl) (e := Extern.SlicesOverlaps.overlaps #[27, 27] #[4]) (by kernel_rfl),
            Lib.run_overlaps_apart (w.drewN q) 27 4 3 qzw 1 qy3 ⟨g, (i + m), none⟩ a lb cb m vc (fun h => hva h.symm) e' tB cur.size kB (by simp [World.shape?, hg]) (by simpa [World.shape?] using hsb) hkB (by simp [World.frozen?, hg]) (by simp [World.frozen?, hg])]
          rfl
        · intro q ty dc sc
          have := run_copy_rows (P := Tryz.prog) (w.drewN q) 27 27 ty 3 1 g ((i + m) * 1) (n - j) dc ⟨g, j * 1, none⟩ (n - j) sc cur e' cs qzw qzc hg (by rw [hcl, hmin2]) (fun q' v hq => by rw [Addr.add_lit]; simpa [World.cell?, hg] using get_drop htd q' v hq) hfa h1s
          rw [hmin2] at this
          simpa using this
        · intro q ty dc
          have := run_copy_rows (P := Tryz.prog) ((w.drewN q).setRow g (spl cur ((i + m) * 1) cs)) 27 27 ty 3 1 g (i * 1) (i + m + (n - j) - i) dc a m vc (spl cur ((i + m) * 1) cs) e' vs qzw qzc (setRow_heap _ g cur _ e' _ hg) (by rw [hvl, hmin]) (fun q' v hq => by rw [cell_setRow hva]; exact hv q' v hq) hfb h1v
          rw [hmin] at this
          simpa using this
        · rintro en w' ⟨q, rfl, rfl⟩
          refine ⟨_, rfl, ⟨e', ?_⟩, ?_, fun b hb => .inl (by simp [Value.ownBlock] at hb; exact hb.symm)⟩
          · refine own_make (setRow_heap _ g _ _ e' _ (setRow_heap _ g cur _ e' _ hg)) hys hroom hcm (by rw [spl_size hfb, spl_size hfa]; exact hcs) ?_
            have d1 : (spl cur ((i + m) * 1) cs).toList.drop ((i + m) * 1) = cs ++ cur.toList.drop ((i + m) * 1 + cs.length) := by
              show List.drop _ (cur.toList.take ((i + m) * 1) ++ cs ++ cur.toList.drop ((i + m) * 1 + cs.length)) = _
              rw [List.append_assoc, List.drop_left' (by rw [List.length_take]; omega)]
            show List.take _ ((spl cur ((i + m) * 1) cs).toList.take (i * 1) ++ vs ++ (spl cur ((i + m) * 1) cs).toList.drop (i * 1 + vs.length)) = _
            rw [show i * 1 + vs.length = (i + m) * 1 by omega, d1, spl_take_lo (by omega) (by omega), htA, ← List.append_assoc]
            exact List.take_left' (by rw [← htA]; exact hys)
          · rw [setRow_setRow]
            exact (((qns w q).mono fun _ _ _ h => h.elim).trans (fr_row (w := w.drewN q) hg (by rw [spl_size hfb, spl_size hfa])))
      · have hfa : i * 1 + vs.length ≤ cur.size := by omega
        have hfb : (i + m) * 1 + cs.length ≤ (spl cur (i * 1) vs).size := by rw [spl_size hfa]; omega
        have hfc : (i + m + (n - j)) * 1 + (Builtin.zeroCells ((.int .i64 0) : Value).cells (n - (i + m + (n - j)))).toList.length ≤ (spl (spl cur (i * 1) vs) ((i + m) * 1) cs).size := by rw [spl_size hfb, spl_size hfa, lz]; omega
        have htd1 : ((spl cur (i * 1) vs).toList.drop (j * 1)).take ((n - j) * 1) = cs := by rw [spl_drop_hi (by omega) hfa]; exact htd
        refine (qvf g n c i j m vc a w (fun q => (w.drewN q).setRow g (spl cur (i * 1) vs)) (fun q => ((w.drewN q).setRow g (spl cur (i * 1) vs)).drew.setRow g (spl (spl cur (i * 1) vs) ((i + m) * 1) cs)) (fun q => (((w.drewN q).setRow g (spl cur (i * 1) vs)).drew.setRow g (spl (spl cur (i * 1) vs) ((i + m) * 1) cs)).setRow g (spl (spl (spl cur (i * 1) vs) ((i + m) * 1) cs) ((i + m + (n - j)) * 1) (Builtin.zeroCells ((.int .i64 0) : Value).cells (n - (i + m + (n - j)))).toList)) hij hj' hnc (by omega) hcm' (by omega) (by omega) ?_ ?_ ?_).mono ?_
        · intro q ty dc
          have := run_copy_rows (P := Tryz.prog) (w.drewN q) 27 27 ty 3 1 g (i * 1) (i + m + (n - j) - i) dc a m vc cur e' vs qzw qzc hg (by rw [hvl, hmin]) hv hfa h1v
          rw [hmin] at this
          simpa using this
        · intro q ty dc sc
          have hh : ((w.drewN q).setRow g (spl cur (i * 1) vs)).drew.heap[g]? = some (.cells (spl cur (i * 1) vs) e' (0, 0)) := setRow_heap _ g cur _ e' _ hg
          have := run_copy_rows (P := Tryz.prog) ((w.drewN q).setRow g (spl cur (i * 1) vs)).drew 27 27 ty 3 1 g ((i + m) * 1) (n - j) dc ⟨g, j * 1, none⟩ (n - j) sc _ e' cs qzw qzc hh (by rw [hcl, hmin2]) (fun q' v hq => cell_at hh (get_drop htd1 q' v hq)) hfb h1s
          rw [hmin2] at this
          simpa using this
        · intro q ty kc
          have := run_clear_rows (P := Tryz.prog) _ 27 3 ty (.int .i64 0) qzw q0p h1z g ((i + m + (n - j)) * 1) (n - (i + m + (n - j))) kc (by omega) _ e' (setRow_heap ((w.drewN q).setRow g (spl cur (i * 1) vs)).drew g _ (spl (spl cur (i * 1) vs) ((i + m) * 1) cs) e' _ (setRow_heap (w.drewN q) g cur _ e' _ hg)) hfc
          simpa using this
        · rintro en w' ⟨q, rfl, rfl⟩
          refine ⟨_, rfl, ⟨e', ?_⟩, ?_, fun b hb => .inl (by simp [Value.ownBlock] at hb; exact hb.symm)⟩
          · refine own_make (setRow_heap _ g _ _ e' _ (setRow_heap _ g _ _ e' _ (setRow_heap (w.drewN q) g cur _ e' _ hg))) hys hroom hcm (by rw [spl_size hfc, spl_size hfb, spl_size hfa]; exact hcs) ?_
            rw [spl_take_lo (by omega) (by rw [spl_size hfb, spl_size hfa]; omega)]
            have e1 := spl_take hfb
            rw [show (i + m) * 1 + cs.length = (i + m + (n - j)) * 1 by omega] at e1
            rw [e1]
            have e2 := spl_take hfa
            rw [show i * 1 + vs.length = (i + m) * 1 by omega] at e2
            rw [e2, htA]
          · have f1 := fr_row (w := w.drewN q) hg (spl_size hfa)
            have g1 := setRow_heap (w.drewN q) g cur (spl cur (i * 1) vs) e' _ hg
            have f2 := fr_row (w := ((w.drewN q).setRow g (spl cur (i * 1) vs)).drew) g1 (spl_size hfb)
            have g2 := setRow_heap ((w.drewN q).setRow g (spl cur (i * 1) vs)).drew g _ (spl (spl cur (i * 1) vs) ((i + m) * 1) cs) e' _ g1
            have f3 := fr_row g2 (spl_size hfc)
            exact ((qns w q).mono fun _ _ _ h => h.elim).trans (f1.trans (((fr_drew _).mono fun _ _ _ h => h.elim).trans (f2.trans f3)))
    · obtain ⟨ROW, hROW⟩ : ∃ ROW : Nat → Array Value, ROW = fun q => (xs.take (i * 1)).toArray ++ Builtin.zeroCells ((.int .i64 0) : Value).cells (m + (n - j)) ++ Builtin.zeroCells ((.int .i64 0) : Value).cells (grownCap (w.drewN q) (i + (m + (n - j))) c 3 - (i + (m + (n - j)))) := ⟨_, rfl⟩
      obtain ⟨G, hGd⟩ : ∃ G : Nat → Nat, G = fun q => grownCap (w.drewN q) (i + (m + (n - j))) c 3 := ⟨_, rfl⟩
      have hG : ∀ q, i + m + (n - j) ≤ G q := fun q => by have := grownCap_ge (w.drewN q) (i + (m + (n - j))) c 3; rw [hGd]; show i + m + (n - j) ≤ grownCap (w.drewN q) (i + (m + (n - j))) c 3; omega
      have hGm : ∀ q, G q ≤ maxLen := fun q => by rw [hGd]; exact grownCap_le_maxLen _ _ _ _ (by unfold maxLen; omega)
      have hrs : ∀ q, (ROW q).size = G q * 1 := fun q => by
        have := hG q
        rw [hGd] at this ⊢
        rw [hROW]
        simp only [Array.size_append, List.size_toArray, List.length_take]
        rw [← Array.length_toList (xs := Builtin.zeroCells _ _), lz, ← Array.length_toList (xs := Builtin.zeroCells _ _), lz]
        simp only at this
        omega
      have hrt : ∀ q, (ROW q).toList.take (i * 1) = xs.take (i * 1) := fun q => by
        rw [hROW]
        simp only [Array.toList_append, List.append_assoc]
        exact List.take_left' (by rw [List.length_take]; omega)
      have hap : ∀ q, (Builtin.append_ #[27, 3] 27 #[.slice (some ⟨g, 0, none⟩) i c, .int .i64 ((i : Int) + (m : Int) + ((n - j : Nat) : Int) - (i : Int))]).run Tryz.prog (w.drewN q) = .ok (.slice (some ⟨w.heap.size, 0, none⟩) (i + m + (n - j)) (G q)) ((w.drewN q).drew.alloc (.cells (ROW q) 3)) := fun q => by
        have hold : (Builtin.firstCells i0.size i (.slice (some ⟨g, 0, none⟩) i c)).run Tryz.prog (w.drewN q).drew = .ok (xs.take (i * 1)).toArray (w.drewN q).drew := by
          rw [hzs]
          exact run_firstCells_some _ 1 i ⟨g, 0, none⟩ i c _ (by rw [List.length_take]; omega) (fun q' v hq => by
            rw [Addr.add_lit]
            have := get_drop (cur := cur) (o := 0) (L := i * 1) (cs := xs.take (i * 1)) (by rw [List.drop_zero, htA]) q' v hq
            simpa [World.cell?, hg] using this)
        have h := Lib.run_append_grow_zeros (P := Tryz.prog) (w.drewN q) 27 3 27 3 i0 (.int .i64 0) .i64 .i64 qzw (by kernel_rfl) hi hz0 (some ⟨g, 0, none⟩) i c (xs.take (i * 1)) hold (m + (n - j)) (by omega) (by omega) (by omega) (by omega) (by rw [hzb]; omega) (by rw [hzb]; exact growslice_fits (by omega) (by omega))
        rw [show (i : Int) + (m : Int) + ((n - j : Nat) : Int) - (i : Int) = ((m + (n - j) : Nat) : Int) by omega, show i + m + (n - j) = i + (m + (n - j)) by omega, hGd, hROW]
        exact h
      have hfa : ∀ q, i * 1 + vs.length ≤ (ROW q).size := fun q => by rw [hrs q]; have := hG q; omega
      have hfb : ∀ q, (i + m) * 1 + cs.length ≤ (spl (ROW q) (i * 1) vs).size := fun q => by rw [spl_size (hfa q), hrs q]; have := hG q; omega
      have hnew : ∀ q, ((w.drewN q).drew.alloc (.cells (ROW q) 3)).heap[w.heap.size]? = some (.cells (ROW q) 3 (0, 0)) := fun q => heap_alloc_new (w.drewN q).drew _
      have hold : ∀ q b, b < w.heap.size → ((w.drewN q).drew.alloc (.cells (ROW q) 3)).heap[b]? = w.heap[b]? := fun q b hb => by
        show (w.heap.push _)[b]? = _
        rw [Array.getElem?_push, if_neg (by omega)]
      have hab : a.block < w.heap.size := block_lt_of_cell (hv 0 _ (List.getElem?_eq_getElem (show 0 < vs.length by omega)))
      refine (qvh g n c i j m vc w.heap.size a w G (fun q => (w.drewN q).drew.alloc (.cells (ROW q) 3)) (fun q => ((w.drewN q).drew.alloc (.cells (ROW q) 3)).setRow w.heap.size (spl (ROW q) (i * 1) vs)) (fun q => (((w.drewN q).drew.alloc (.cells (ROW q) 3)).setRow w.heap.size (spl (ROW q) (i * 1) vs)).drew.setRow w.heap.size (spl (spl (ROW q) (i * 1) vs) ((i + m) * 1) cs)) hij hj' hnc (by omega) hcm' (by omega) (by omega) hG hap ?_ ?_).mono ?_
      · intro q ty dc
        have := run_copy_rows (P := Tryz.prog) ((w.drewN q).drew.alloc (.cells (ROW q) 3)) 27 27 ty 3 1 w.heap.size (i * 1) (i + m + (n - j) - i) dc a m vc (ROW q) 3 vs qzw qzc (hnew q) (by rw [hvl, hmin]) (fun q' v hq => by
          rw [← hv q' v hq]; simp only [World.cell?, addr_block]; rw [hold q a.block hab]) (hfa q) h1v
        rw [hmin] at this
        simpa using this
      · intro q ty dc sc
        have hh : (((w.drewN q).drew.alloc (.cells (ROW q) 3)).setRow w.heap.size (spl (ROW q) (i * 1) vs)).drew.heap[w.heap.size]? = some (.cells (spl (ROW q) (i * 1) vs) 3 (0, 0)) := setRow_heap _ _ _ _ 3 _ (hnew q)
        have hh2 : (((w.drewN q).drew.alloc (.cells (ROW q) 3)).setRow w.heap.size (spl (ROW q) (i * 1) vs)).drew.heap[g]? = some (.cells cur e' (0, 0)) := by
          show (((w.drewN q).drew.alloc (.cells (ROW q) 3)).setRow w.heap.size (spl (ROW q) (i * 1) vs)).heap[g]? = _
          rw [setRow_other _ w.heap.size g _ (by omega), hold q g hlt]; exact hg
        have := run_copy_rows (P := Tryz.prog) (((w.drewN q).drew.alloc (.cells (ROW q) 3)).setRow w.heap.size (spl (ROW q) (i * 1) vs)).drew 27 27 ty 3 1 w.heap.size ((i + m) * 1) (n - j) dc ⟨g, j * 1, none⟩ (n - j) sc _ 3 cs qzw qzc hh (by rw [hcl, hmin2]) (fun q' v hq => cell_at hh2 (get_drop htd q' v hq)) (hfb q) h1s
        rw [hmin2] at this
        simpa using this
      · rintro en w' ⟨q, rfl, rfl⟩
        refine ⟨_, rfl, ⟨3, ?_⟩, ?_, fun b hb => .inr (by simp [Value.ownBlock] at hb; omega)⟩
        · refine own_make (setRow_heap _ _ _ _ 3 _ (setRow_heap _ _ _ _ 3 _ (hnew q))) hys (hG q) (hGm q) (by rw [spl_size (hfb q), spl_size (hfa q)]; exact hrs q) ?_
          have e1 := spl_take (hfb q)
          rw [show (i + m) * 1 + cs.length = (i + m + (n - j)) * 1 by omega] at e1
          rw [e1]
          have e2 := spl_take (hfa q)
          rw [show i * 1 + vs.length = (i + m) * 1 by omega] at e2
          rw [e2, hrt q]
        · have f0 : Fr (fun b _ => b = g ∨ w.heap.size ≤ b) w ((w.drewN q).drew.alloc (.cells (ROW q) 3)) := ((qns w q).mono fun _ _ _ h => h.elim).trans (((fr_drew _).mono fun _ _ _ h => h.elim).trans ((fr_alloc _ _).mono fun _ _ _ h => h.elim))
          have f1 := fr_new f0 (Nat.le_refl _) (hnew q) (spl_size (hfa q))
          have f2 := fr_new (f1.trans ((fr_drew _).mono fun _ _ _ h => h.elim)) (Nat.le_refl _) (setRow_heap _ _ _ _ 3 _ (hnew q)) (spl_size (hfb q))
          exact f2.mono fun x y hx h => h.elim id fun h => by omega

theorem q0o : ∀ w, (zeroValue 123).run Tryz.prog w = .ok (.agg #[.int .i64 0, .int .i64 0, .int .i64 0]) w := fun w => by
  obtain ⟨i0, hi, h0, h1, h2⟩ := info_parts qn4
  simp [zeroValue, typeInfo, hi, h0]
set_option maxHeartbeats 1000000 in
set_option maxRecDepth 100000 in
theorem qvc (w : World) (g n c i j m vc : Nat) (a : Addr) (xs vs : List Value) (e' : TypeId) (hij : i < j) (hj : j ≤ n) (hm : 1 ≤ m) (hne : i + m ≠ j) (hn : n ≤ 549755813888) (hmb : m ≤ 549755813888)
    (own : w.ownsRow 0 e' 3 (.slice (some ⟨g, 0, none⟩) n c) n xs) (hva : a.block ≠ g) (hvl : vs.length = m * 3) (hv : ∀ q v, vs[q]? = some v → w.cell? (a.add q) = some v)
    (h1c : ∀ v ∈ xs, v.oneCell' = true) (h1v : ∀ v ∈ vs, v.oneCell' = true) :
    Calls Tryz.prog 254 #[.slice (some ⟨g, 0, none⟩) n c, .int .i64 i, .int .i64 j, .slice (some a) m vc] w (RepPost 3 w g (i + m + (n - j)) (xs.take (i * 3) ++ vs ++ xs.drop (j * 3))) := by
  have own0 := own
  obtain ⟨hxl, hx | ⟨g', cap, cur, e1, _, hg, hnc, hcm, hcs, htk⟩⟩ := own
  · simp at hx
  simp only [Value.slice.injEq, Option.some.injEq, Addr.mk.injEq, and_true, true_and] at e1
  obtain ⟨rfl, rfl⟩ := e1
  have hcm' := hcm
  unfold maxLen at hcm'
  obtain ⟨i0, hi, hz0, hzs, hzb⟩ := info_parts qn4
  have hlt : g < w.heap.size := (Array.getElem?_eq_some_iff.1 hg).1
  have hcur : cur.toList.length = c * 3 := by rw [Array.length_toList]; exact hcs
  have htA : xs.take (i * 3) = cur.toList.take (i * 3) := by rw [← htk, take_take_le _ (by omega)]
  have h1z : ∀ n, ∀ v ∈ (Builtin.zeroCells ((.agg #[.int .i64 0, .int .i64 0, .int .i64 0]) : Value).cells n).toList, v.oneCell' = true := fun n => zeroCells_oneCell (by intro v hv; simp [Value.cells] at hv; rcases hv with rfl | rfl | rfl <;> rfl) n
  have lz : ∀ n, (Builtin.zeroCells ((.agg #[.int .i64 0, .int .i64 0, .int .i64 0]) : Value).cells n).toList.length = n * 3 := fun n => by simp [Builtin.zeroCells, Value.cells]
  by_cases hjn : j = n
  · have hys : xs.take (i * 3) ++ vs ++ xs.drop (j * 3) = xs.take (i * 3) ++ vs := by rw [List.drop_of_length_le (by omega), List.append_nil]
    have owni : w.ownsRow 0 e' i0.size (.slice (some ⟨g, 0, none⟩) i c) i (xs.take (i * 3)) := by
      rw [hzs]; exact own_make hg (by rw [List.length_take]; omega) (by omega) hcm hcs (by rw [htA])
    obtain ⟨u', w1, e2, hr, hown, hfr, _, hblk⟩ := append_any (P := Tryz.prog) (w := w) (t := 24) (t2 := 24) (ty := 24) (e := 123) (e' := e') (d2 := .slice 123) (i := i0) (z := (.agg #[.int .i64 0, .int .i64 0, .int .i64 0])) qzv qzv (fun k h => by cases h) hi hz0 (by rw [hzs]; rfl) (by omega) (by omega)
      (u := .slice (some ⟨g, 0, none⟩) i c) (x := .slice (some a) m vc) (n := i) (m := m) (xs := xs.take (i * 3)) (news := vs) rfl
      (fun w1 h => by
        rw [hzs]
        rcases h with rfl | rfl
        · exact run_firstCells_some w1 3 m a m vc vs hvl hv
        · exact run_firstCells_some w.drew 3 m a m vc vs hvl hv) (by rw [hvl, hzs]) h1v owni (by unfold bigLen; omega)
    have hfr' : Fr (fun b _ => b = g) w w1 := hfr.mono fun x y _ h => by simp [Value.ownBlock] at h; exact h.symm
    rw [hzs] at hown
    have hown0 := hown
    obtain ⟨_, ⟨_, h0⟩ | ⟨g1, cap1, cur1, rfl, _⟩⟩ := hown
    · omega
    have hblk' : ∀ b, (Value.slice (some ⟨g1, 0, none⟩) (i + m) cap1).ownBlock = some b → b = g ∨ w.heap.size ≤ b := fun b hb => (hblk b hb).imp (fun h => by simp [Value.ownBlock] at h; exact h.symm) id
    by_cases hcut : i + m < n
    · obtain ⟨cu, hcu, hcz⟩ := fr_at hfr' hg
      have hfit : (i + m) * 3 + (Builtin.zeroCells ((.agg #[.int .i64 0, .int .i64 0, .int .i64 0]) : Value).cells (n - (i + m))).toList.length ≤ cu.size := by rw [lz]; omega
      refine (qu8 g n c i j m vc cap1 a ⟨g1, 0, none⟩ w w1 _ hij hjn hnc (by omega) hcm' hcut (by omega) hr (fun ty kc => run_clear_rows w1 24 123 ty (.agg #[.int .i64 0, .int .i64 0, .int .i64 0]) qzv q0o h1z g ((i + m) * 3) (n - (i + m)) kc (by omega) cu e' hcu (by omega))).mono ?_
      rintro en w' ⟨rfl, rfl⟩
      refine ⟨_, rfl, ⟨e2, ?_⟩, hfr'.trans (fr_row hcu (spl_size (by omega))), hblk'⟩
      rw [hys, show i + m + (n - j) = i + m by omega]
      exact own_clear hown0 hcu (by omega) (by omega)
    · refine (qva g n c i j m vc cap1 a ⟨g1, 0, none⟩ w w1 hij hjn hnc (by omega) hcm' (by omega) (by omega) hr).mono ?_
      rintro en w' ⟨rfl, rfl⟩
      refine ⟨_, rfl, ⟨e2, ?_⟩, hfr', hblk'⟩
      rw [hys, show i + m + (n - j) = i + m by omega]
      exact hown0
  · have hj' : j < n := by omega
    obtain ⟨cs, hcsd⟩ : ∃ cs, cs = xs.drop (j * 3) := ⟨_, rfl⟩
    have hcl : cs.length = (n - j) * 3 := by rw [hcsd, List.length_drop]; omega
    have h1s : ∀ v ∈ cs, v.oneCell' = true := fun v hv => h1c v (by rw [hcsd] at hv; exact List.mem_of_mem_drop hv)
    have htd : (cur.toList.drop (j * 3)).take ((n - j) * 3) = cs := by rw [hcsd, ← htk, List.drop_take]; congr 1; omega
    have hys : (xs.take (i * 3) ++ vs ++ cs).length = (i + m + (n - j)) * 3 := by
      rw [List.length_append, List.length_append, List.length_take]; omega
    rw [← hcsd]
    have hmin : Nat.min m (i + m + (n - j) - i) = m := by simp only [Nat.min_def]; split <;> omega
    have hmin2 : Nat.min (n - j) (n - j) = n - j := Nat.min_self _
    by_cases hroom : i + m + (n - j) ≤ c
    · by_cases hgr : j < i + m
      · have hfa : (i + m) * 3 + cs.length ≤ cur.size := by omega
        have hfb : i * 3 + vs.length ≤ (spl cur ((i + m) * 3) cs).size := by rw [spl_size hfa]; omega
        obtain ⟨tB, kB, hsb, hkB⟩ := shape_of (by omega) hv
        refine (qvi g n c i j m vc a w (fun q => (w.drewN q).setRow g (spl cur ((i + m) * 3) cs)) (fun q => ((w.drewN q).setRow g (spl cur ((i + m) * 3) cs)).setRow g (spl (spl cur ((i + m) * 3) cs) (i * 3) vs)) hij hj' hnc (by omega) hcm' hgr (by omega) hroom ?_ ?_ ?_).mono ?_
        · intro q lb cb
          rw [run_callFunc_extern Tryz.func265 (by kernel_rfl) (by kernel_rfl) (by kernel_rfl) (e := Extern.SlicesOverlaps.overlaps #[24, 24] #[4]) (by kernel_rfl),
            Lib.run_overlaps_apart (w.drewN q) 24 4 123 qzv 3 qy2 ⟨g, ((i + m) * 3), none⟩ a lb cb m vc (fun h => hva h.symm) e' tB cur.size kB (by simp [World.shape?, hg]) (by simpa [World.shape?] using hsb) hkB (by simp [World.frozen?, hg]) (by simp [World.frozen?, hg])]
          rfl
        · intro q ty dc sc
          have := run_copy_rows (P := Tryz.prog) (w.drewN q) 24 24 ty 123 3 g ((i + m) * 3) (n - j) dc ⟨g, j * 3, none⟩ (n - j) sc cur e' cs qzv qzb hg (by rw [hcl, hmin2]) (fun q' v hq => by rw [Addr.add_lit]; simpa [World.cell?, hg] using get_drop htd q' v hq) hfa h1s
          rw [hmin2] at this
          simpa using this
        · intro q ty dc
          have := run_copy_rows (P := Tryz.prog) ((w.drewN q).setRow g (spl cur ((i + m) * 3) cs)) 24 24 ty 123 3 g (i * 3) (i + m + (n - j) - i) dc a m vc (spl cur ((i + m) * 3) cs) e' vs qzv qzb (setRow_heap _ g cur _ e' _ hg) (by rw [hvl, hmin]) (fun q' v hq => by rw [cell_setRow hva]; exact hv q' v hq) hfb h1v
          rw [hmin] at this
          simpa using this
        · rintro en w' ⟨q, rfl, rfl⟩
          refine ⟨_, rfl, ⟨e', ?_⟩, ?_, fun b hb => .inl (by simp [Value.ownBlock] at hb; exact hb.symm)⟩
          · refine own_make (setRow_heap _ g _ _ e' _ (setRow_heap _ g cur _ e' _ hg)) hys hroom hcm (by rw [spl_size hfb, spl_size hfa]; exact hcs) ?_
            have d1 : (spl cur ((i + m) * 3) cs).toList.drop ((i + m) * 3) = cs ++ cur.toList.drop ((i + m) * 3 + cs.length) := by
              show List.drop _ (cur.toList.take ((i + m) * 3) ++ cs ++ cur.toList.drop ((i + m) * 3 + cs.length)) = _
              rw [List.append_assoc, List.drop_left' (by rw [List.length_take]; omega)]
            show List.take _ ((spl cur ((i + m) * 3) cs).toList.take (i * 3) ++ vs ++ (spl cur ((i + m) * 3) cs).toList.drop (i * 3 + vs.length)) = _
            rw [show i * 3 + vs.length = (i + m) * 3 by omega, d1, spl_take_lo (by omega) (by omega), htA, ← List.append_assoc]
            exact List.take_left' (by rw [← htA]; exact hys)
          · rw [setRow_setRow]
            exact (((qns w q).mono fun _ _ _ h => h.elim).trans (fr_row (w := w.drewN q) hg (by rw [spl_size hfb, spl_size hfa])))
      · have hfa : i * 3 + vs.length ≤ cur.size := by omega
        have hfb : (i + m) * 3 + cs.length ≤ (spl cur (i * 3) vs).size := by rw [spl_size hfa]; omega
        have hfc : (i + m + (n - j)) * 3 + (Builtin.zeroCells ((.agg #[.int .i64 0, .int .i64 0, .int .i64 0]) : Value).cells (n - (i + m + (n - j)))).toList.length ≤ (spl (spl cur (i * 3) vs) ((i + m) * 3) cs).size := by rw [spl_size hfb, spl_size hfa, lz]; omega
        have htd1 : ((spl cur (i * 3) vs).toList.drop (j * 3)).take ((n - j) * 3) = cs := by rw [spl_drop_hi (by omega) hfa]; exact htd
        refine (qve g n c i j m vc a w (fun q => (w.drewN q).setRow g (spl cur (i * 3) vs)) (fun q => ((w.drewN q).setRow g (spl cur (i * 3) vs)).drew.setRow g (spl (spl cur (i * 3) vs) ((i + m) * 3) cs)) (fun q => (((w.drewN q).setRow g (spl cur (i * 3) vs)).drew.setRow g (spl (spl cur (i * 3) vs) ((i + m) * 3) cs)).setRow g (spl (spl (spl cur (i * 3) vs) ((i + m) * 3) cs) ((i + m + (n - j)) * 3) (Builtin.zeroCells ((.agg #[.int .i64 0, .int .i64 0, .int .i64 0]) : Value).cells (n - (i + m + (n - j)))).toList)) hij hj' hnc (by omega) hcm' (by omega) (by omega) ?_ ?_ ?_).mono ?_
        · intro q ty dc
          have := run_copy_rows (P := Tryz.prog) (w.drewN q) 24 24 ty 123 3 g (i * 3) (i + m + (n - j) - i) dc a m vc cur e' vs qzv qzb hg (by rw [hvl, hmin]) hv hfa h1v
          rw [hmin] at this
          simpa using this
        · intro q ty dc sc
          have hh : ((w.drewN q).setRow g (spl cur (i * 3) vs)).drew.heap[g]? = some (.cells (spl cur (i * 3) vs) e' (0, 0)) := setRow_heap _ g cur _ e' _ hg
          have := run_copy_rows (P := Tryz.prog) ((w.drewN q).setRow g (spl cur (i * 3) vs)).drew 24 24 ty 123 3 g ((i + m) * 3) (n - j) dc ⟨g, j * 3, none⟩ (n - j) sc _ e' cs qzv qzb hh (by rw [hcl, hmin2]) (fun q' v hq => cell_at hh (get_drop htd1 q' v hq)) hfb h1s
          rw [hmin2] at this
          simpa using this
        · intro q ty kc
          have := run_clear_rows (P := Tryz.prog) _ 24 123 ty (.agg #[.int .i64 0, .int .i64 0, .int .i64 0]) qzv q0o h1z g ((i + m + (n - j)) * 3) (n - (i + m + (n - j))) kc (by omega) _ e' (setRow_heap ((w.drewN q).setRow g (spl cur (i * 3) vs)).drew g _ (spl (spl cur (i * 3) vs) ((i + m) * 3) cs) e' _ (setRow_heap (w.drewN q) g cur _ e' _ hg)) hfc
          simpa using this
        · rintro en w' ⟨q, rfl, rfl⟩
          refine ⟨_, rfl, ⟨e', ?_⟩, ?_, fun b hb => .inl (by simp [Value.ownBlock] at hb; exact hb.symm)⟩
          · refine own_make (setRow_heap _ g _ _ e' _ (setRow_heap _ g _ _ e' _ (setRow_heap (w.drewN q) g cur _ e' _ hg))) hys hroom hcm (by rw [spl_size hfc, spl_size hfb, spl_size hfa]; exact hcs) ?_
            rw [spl_take_lo (by omega) (by rw [spl_size hfb, spl_size hfa]; omega)]
            have e1 := spl_take hfb
            rw [show (i + m) * 3 + cs.length = (i + m + (n - j)) * 3 by omega] at e1
            rw [e1]
            have e2 := spl_take hfa
            rw [show i * 3 + vs.length = (i + m) * 3 by omega] at e2
            rw [e2, htA]
          · have f1 := fr_row (w := w.drewN q) hg (spl_size hfa)
            have g1 := setRow_heap (w.drewN q) g cur (spl cur (i * 3) vs) e' _ hg
            have f2 := fr_row (w := ((w.drewN q).setRow g (spl cur (i * 3) vs)).drew) g1 (spl_size hfb)
            have g2 := setRow_heap ((w.drewN q).setRow g (spl cur (i * 3) vs)).drew g _ (spl (spl cur (i * 3) vs) ((i + m) * 3) cs) e' _ g1
            have f3 := fr_row g2 (spl_size hfc)
            exact ((qns w q).mono fun _ _ _ h => h.elim).trans (f1.trans (((fr_drew _).mono fun _ _ _ h => h.elim).trans (f2.trans f3)))
    · obtain ⟨ROW, hROW⟩ : ∃ ROW : Nat → Array Value, ROW = fun q => (xs.take (i * 3)).toArray ++ Builtin.zeroCells ((.agg #[.int .i64 0, .int .i64 0, .int .i64 0]) : Value).cells (m + (n - j)) ++ Builtin.zeroCells ((.agg #[.int .i64 0, .int .i64 0, .int .i64 0]) : Value).cells (grownCap (w.drewN q) (i + (m + (n - j))) c 123 - (i + (m + (n - j)))) := ⟨_, rfl⟩
      obtain ⟨G, hGd⟩ : ∃ G : Nat → Nat, G = fun q => grownCap (w.drewN q) (i + (m + (n - j))) c 123 := ⟨_, rfl⟩
      have hG : ∀ q, i + m + (n - j) ≤ G q := fun q => by have := grownCap_ge (w.drewN q) (i + (m + (n - j))) c 123; rw [hGd]; show i + m + (n - j) ≤ grownCap (w.drewN q) (i + (m + (n - j))) c 123; omega
      have hGm : ∀ q, G q ≤ maxLen := fun q => by rw [hGd]; exact grownCap_le_maxLen _ _ _ _ (by unfold maxLen; omega)
      have hrs : ∀ q, (ROW q).size = G q * 3 := fun q => by
        have := hG q
        rw [hGd] at this ⊢
        rw [hROW]
        simp only [Array.size_append, List.size_toArray, List.length_take]
        rw [← Array.length_toList (xs := Builtin.zeroCells _ _), lz, ← Array.length_toList (xs := Builtin.zeroCells _ _), lz]
        simp only at this
        omega
      have hrt : ∀ q, (ROW q).toList.take (i * 3) = xs.take (i * 3) := fun q => by
        rw [hROW]
        simp only [Array.toList_append, List.append_assoc]
        exact List.take_left' (by rw [List.length_take]; omega)
      have hap : ∀ q, (Builtin.append_ #[24, 3] 24 #[.slice (some ⟨g, 0, none⟩) i c, .int .i64 ((i : Int) + (m : Int) + ((n - j : Nat) : Int) - (i : Int))]).run Tryz.prog (w.drewN q) = .ok (.slice (some ⟨w.heap.size, 0, none⟩) (i + m + (n - j)) (G q)) ((w.drewN q).drew.alloc (.cells (ROW q) 123)) := fun q => by
        have hold : (Builtin.firstCells i0.size i (.slice (some ⟨g, 0, none⟩) i c)).run Tryz.prog (w.drewN q).drew = .ok (xs.take (i * 3)).toArray (w.drewN q).drew := by
          rw [hzs]
          exact run_firstCells_some _ 3 i ⟨g, 0, none⟩ i c _ (by rw [List.length_take]; omega) (fun q' v hq => by
            rw [Addr.add_lit]
            have := get_drop (cur := cur) (o := 0) (L := i * 3) (cs := xs.take (i * 3)) (by rw [List.drop_zero, htA]) q' v hq
            simpa [World.cell?, hg] using this)
        have h := Lib.run_append_grow_zeros (P := Tryz.prog) (w.drewN q) 24 3 24 123 i0 (.agg #[.int .i64 0, .int .i64 0, .int .i64 0]) .i64 .i64 qzv (by kernel_rfl) hi hz0 (some ⟨g, 0, none⟩) i c (xs.take (i * 3)) hold (m + (n - j)) (by omega) (by omega) (by omega) (by omega) (by rw [hzb]; omega) (by rw [hzb]; exact growslice_fits (by omega) (by omega))
        rw [show (i : Int) + (m : Int) + ((n - j : Nat) : Int) - (i : Int) = ((m + (n - j) : Nat) : Int) by omega, show i + m + (n - j) = i + (m + (n - j)) by omega, hGd, hROW]
        exact h
      have hfa : ∀ q, i * 3 + vs.length ≤ (ROW q).size := fun q => by rw [hrs q]; have := hG q; omega
      have hfb : ∀ q, (i + m) * 3 + cs.length ≤ (spl (ROW q) (i * 3) vs).size := fun q => by rw [spl_size (hfa q), hrs q]; have := hG q; omega
      have hnew : ∀ q, ((w.drewN q).drew.alloc (.cells (ROW q) 123)).heap[w.heap.size]? = some (.cells (ROW q) 123 (0, 0)) := fun q => heap_alloc_new (w.drewN q).drew _
      have hold : ∀ q b, b < w.heap.size → ((w.drewN q).drew.alloc (.cells (ROW q) 123)).heap[b]? = w.heap[b]? := fun q b hb => by
        show (w.heap.push _)[b]? = _
        rw [Array.getElem?_push, if_neg (by omega)]
      have hab : a.block < w.heap.size := block_lt_of_cell (hv 0 _ (List.getElem?_eq_getElem (show 0 < vs.length by omega)))
      refine (qvg g n c i j m vc w.heap.size a w G (fun q => (w.drewN q).drew.alloc (.cells (ROW q) 123)) (fun q => ((w.drewN q).drew.alloc (.cells (ROW q) 123)).setRow w.heap.size (spl (ROW q) (i * 3) vs)) (fun q => (((w.drewN q).drew.alloc (.cells (ROW q) 123)).setRow w.heap.size (spl (ROW q) (i * 3) vs)).drew.setRow w.heap.size (spl (spl (ROW q) (i * 3) vs) ((i + m) * 3) cs)) hij hj' hnc (by omega) hcm' (by omega) (by omega) hG hap ?_ ?_).mono ?_
      · intro q ty dc
        have := run_copy_rows (P := Tryz.prog) ((w.drewN q).drew.alloc (.cells (ROW q) 123)) 24 24 ty 123 3 w.heap.size (i * 3) (i + m + (n - j) - i) dc a m vc (ROW q) 123 vs qzv qzb (hnew q) (by rw [hvl, hmin]) (fun q' v hq => by
          rw [← hv q' v hq]; simp only [World.cell?, addr_block]; rw [hold q a.block hab]) (hfa q) h1v
        rw [hmin] at this
        simpa using this
      · intro q ty dc sc
        have hh : (((w.drewN q).drew.alloc (.cells (ROW q) 123)).setRow w.heap.size (spl (ROW q) (i * 3) vs)).drew.heap[w.heap.size]? = some (.cells (spl (ROW q) (i * 3) vs) 123 (0, 0)) := setRow_heap _ _ _ _ 123 _ (hnew q)
        have hh2 : (((w.drewN q).drew.alloc (.cells (ROW q) 123)).setRow w.heap.size (spl (ROW q) (i * 3) vs)).drew.heap[g]? = some (.cells cur e' (0, 0)) := by
          show (((w.drewN q).drew.alloc (.cells (ROW q) 123)).setRow w.heap.size (spl (ROW q) (i * 3) vs)).heap[g]? = _
          rw [setRow_other _ w.heap.size g _ (by omega), hold q g hlt]; exact hg
        have := run_copy_rows (P := Tryz.prog) (((w.drewN q).drew.alloc (.cells (ROW q) 123)).setRow w.heap.size (spl (ROW q) (i * 3) vs)).drew 24 24 ty 123 3 w.heap.size ((i + m) * 3) (n - j) dc ⟨g, j * 3, none⟩ (n - j) sc _ 123 cs qzv qzb hh (by rw [hcl, hmin2]) (fun q' v hq => cell_at hh2 (get_drop htd q' v hq)) (hfb q) h1s
        rw [hmin2] at this
        simpa using this
      · rintro en w' ⟨q, rfl, rfl⟩
        refine ⟨_, rfl, ⟨123, ?_⟩, ?_, fun b hb => .inr (by simp [Value.ownBlock] at hb; omega)⟩
        · refine own_make (setRow_heap _ _ _ _ 123 _ (setRow_heap _ _ _ _ 123 _ (hnew q))) hys (hG q) (hGm q) (by rw [spl_size (hfb q), spl_size (hfa q)]; exact hrs q) ?_
          have e1 := spl_take (hfb q)
          rw [show (i + m) * 3 + cs.length = (i + m + (n - j)) * 3 by omega] at e1
          rw [e1]
          have e2 := spl_take (hfa q)
          rw [show i * 3 + vs.length = (i + m) * 3 by omega] at e2
          rw [e2, hrt q]
        · have f0 : Fr (fun b _ => b = g ∨ w.heap.size ≤ b) w ((w.drewN q).drew.alloc (.cells (ROW q) 123)) := ((qns w q).mono fun _ _ _ h => h.elim).trans (((fr_drew _).mono fun _ _ _ h => h.elim).trans ((fr_alloc _ _).mono fun _ _ _ h => h.elim))
          have f1 := fr_new f0 (Nat.le_refl _) (hnew q) (spl_size (hfa q))
          have f2 := fr_new (f1.trans ((fr_drew _).mono fun _ _ _ h => h.elim)) (Nat.le_refl _) (setRow_heap _ _ _ _ 123 _ (hnew q)) (spl_size (hfb q))
          exact f2.mono fun x y hx h => h.elim id fun h => by omega
end Go.Proofs.YtoldpdhhfmlckaaGreat
end
section
namespace Go.Proofs.YtoldpdhhfmlckaaGreat
open Go.RowKit Go.Lib Go.Ev Go.Shelf

theorem qd8 (k : Nat) (z z' : Bool) (l v : List Int) (i j : Int) (hi : 0 ≤ i) (hij : i < j) (hj : j ≤ (l.length : Int)) (hv : 1 ≤ v.length) (hne : ¬ i + (v.length : Int) = j) (hl : l.length ≤ 1048576) (hvl : v.length ≤ 1048576) :
    go (k + 1) slices_Replace_int_int [.arr true z (.ints .i64 l), .int .i64 i, .int .i64 j, .arr false z' (.ints .i64 v)] = some [.arr true false (.ints .i64 (l.take i.toNat ++ v ++ l.drop j.toNat))] := by
  have e : go (k + 1) slices_Replace_int_int [.arr true z (.ints .i64 l), .int .i64 i, .int .i64 j, .arr false z' (.ints .i64 v)] = repGo (.ints .i64 l) (.ints .i64 v) i j := Eq.trans rfl rfl
  have hl' : (Arr.len (Arr.ints .i64 l)) = l.length := rfl
  have hv' : (Arr.len (Arr.ints .i64 v)) = v.length := rfl
  have hr : repA (.ints .i64 l) (.ints .i64 v) i.toNat j.toNat = some (.ints .i64 (l.take i.toNat ++ v ++ l.drop j.toNat)) := by
    have hd : List.take (l.length - j.toNat) (List.drop j.toNat l) = List.drop j.toNat l := List.take_of_length_le (by rw [List.length_drop]; omega)
    simp [repA, Arr.sub, Arr.app, Arr.len, hd]
  rw [e]
  unfold repGo
  rw [hl', hv', hr]
  simp [hi, hij, hj, hv, hne, show l.length ≤ 549755813888 by omega, show v.length ≤ 549755813888 by omega]
theorem qt6 (x : List Int) : okTs Tryz.prog [27] [.arr true false (.ints .i64 x)] = true := by kernel_rfl
set_option maxRecDepth 100000 in
theorem qoo (ds rs : List D) (h : repI ds = some rs) : Contract Tryz.prog 240 [] ds rs := by
  unfold repI at h
  split at h
  · rename_i z l i j z' v
    unfold repGo at h
    cases hc : (decide (0 ≤ i) && decide (i < j) && decide (j ≤ ((Arr.len (Arr.ints .i64 l)) : Int)) && decide (1 ≤ (Arr.len (Arr.ints .i64 v))) && !decide (i + ((Arr.len (Arr.ints .i64 v)) : Int) = j) && decide ((Arr.len (Arr.ints .i64 l)) ≤ 549755813888) && decide ((Arr.len (Arr.ints .i64 v)) ≤ 549755813888))
    · rw [hc] at h; cases h
    rw [hc, qhl, Option.map_eq_some_iff] at h
    obtain ⟨c, hr, rfl⟩ := h
    simp only [Bool.and_eq_true, decide_eq_true_eq, Bool.not_eq_true', decide_eq_false_iff_not] at hc
    obtain ⟨⟨⟨⟨⟨⟨h1, h2⟩, h3⟩, h4⟩, h5⟩, h6⟩, h7⟩ := hc
    have hck : okTs Tryz.prog [27] [.arr true false c] = true := by
      have : c = .ints .i64 (l.take i.toNat ++ v ++ l.drop j.toNat) := by
        have hd : List.take (l.length - j.toNat) (List.drop j.toNat l) = List.drop j.toNat l := List.take_of_length_le (by rw [List.length_drop]; omega)
        simp [repA, Arr.sub, Arr.app, Arr.len, hd] at hr
        rw [← hr]; simp
      rw [this]; exact qt6 _
    refine rep_contract (fn := Tryz.f240) (S := 27) Tryz.func240 (by kernel_rfl) (by kernel_rfl) hck h1 h2 h3 h4 rfl hr (fun w g cap vc x e' own hx hv => ?_)
    exact qvd w g _ cap _ _ _ vc x _ _ e' (by omega) (by omega) h4 (by omega) h6 h7 own hx (Arr.cells_length _) hv (Arr.cells_one _) (Arr.cells_one _)
  · cases h

theorem qd7 (k : Nat) (z z' : Bool) (l v : List (Int × Int × Int)) (i j : Int) (hi : 0 ≤ i) (hij : i < j) (hj : j ≤ (l.length : Int)) (hv : 1 ≤ v.length) (hne : ¬ i + (v.length : Int) = j) (hl : l.length ≤ 1048576) (hvl : v.length ≤ 1048576) :
    go (k + 1) slices_Replace_impl_Id_impl_Id [.arr true z (.r3 l), .int .i64 i, .int .i64 j, .arr false z' (.r3 v)] = some [.arr true false (.r3 (l.take i.toNat ++ v ++ l.drop j.toNat))] := by
  have e : go (k + 1) slices_Replace_impl_Id_impl_Id [.arr true z (.r3 l), .int .i64 i, .int .i64 j, .arr false z' (.r3 v)] = repGo (.r3 l) (.r3 v) i j := Eq.trans rfl rfl
  have hl' : (Arr.len (Arr.r3 l)) = l.length := rfl
  have hv' : (Arr.len (Arr.r3 v)) = v.length := rfl
  have hr : repA (.r3 l) (.r3 v) i.toNat j.toNat = some (.r3 (l.take i.toNat ++ v ++ l.drop j.toNat)) := by
    have hd : List.take (l.length - j.toNat) (List.drop j.toNat l) = List.drop j.toNat l := List.take_of_length_le (by rw [List.length_drop]; omega)
    simp [repA, Arr.sub, Arr.app, Arr.len, hd]
  rw [e]
  unfold repGo
  rw [hl', hv', hr]
  simp [hi, hij, hj, hv, hne, show l.length ≤ 549755813888 by omega, show v.length ≤ 549755813888 by omega]
theorem qt5 (x : List (Int × Int × Int)) : okTs Tryz.prog [24] [.arr true false (.r3 x)] = true := by kernel_rfl
set_option maxRecDepth 100000 in
theorem qon (ds rs : List D) (h : rep3 ds = some rs) : Contract Tryz.prog 254 [] ds rs := by
  unfold rep3 at h
  split at h
  · rename_i z l i j z' v
    unfold repGo at h
    cases hc : (decide (0 ≤ i) && decide (i < j) && decide (j ≤ ((Arr.len (Arr.r3 l)) : Int)) && decide (1 ≤ (Arr.len (Arr.r3 v))) && !decide (i + ((Arr.len (Arr.r3 v)) : Int) = j) && decide ((Arr.len (Arr.r3 l)) ≤ 549755813888) && decide ((Arr.len (Arr.r3 v)) ≤ 549755813888))
    · rw [hc] at h; cases h
    rw [hc, qhl, Option.map_eq_some_iff] at h
    obtain ⟨c, hr, rfl⟩ := h
    simp only [Bool.and_eq_true, decide_eq_true_eq, Bool.not_eq_true', decide_eq_false_iff_not] at hc
    obtain ⟨⟨⟨⟨⟨⟨h1, h2⟩, h3⟩, h4⟩, h5⟩, h6⟩, h7⟩ := hc
    have hck : okTs Tryz.prog [24] [.arr true false c] = true := by
      have : c = .r3 (l.take i.toNat ++ v ++ l.drop j.toNat) := by
        have hd : List.take (l.length - j.toNat) (List.drop j.toNat l) = List.drop j.toNat l := List.take_of_length_le (by rw [List.length_drop]; omega)
        simp [repA, Arr.sub, Arr.app, Arr.len, hd] at hr
        rw [← hr]; simp
      rw [this]; exact qt5 _
    refine rep_contract (fn := Tryz.f254) (S := 24) Tryz.func254 (by kernel_rfl) (by kernel_rfl) hck h1 h2 h3 h4 rfl hr (fun w g cap vc x e' own hx hv => ?_)
    exact qvc w g _ cap _ _ _ vc x _ _ e' (by omega) (by omega) h4 (by omega) h6 h7 own hx (Arr.cells_length _) hv (Arr.cells_one _) (Arr.cells_one _)
  · cases h

theorem withExt : ∀ f g, An.ext f = some g → ∀ ds rs, g ds = some rs → Contract Tryz.prog f (An.mode f) ds rs := by
  intro f g h ds rs hd
  by_cases h1 : f = 240
  · subst h1
    have e : An.ext 240 = some repI := rfl
    rw [e] at h; cases h
    exact qoo ds rs hd
  by_cases h2 : f = 254
  · subst h2
    have e : An.ext 254 = some rep3 := rfl
    rw [e] at h; cases h
    exact qon ds rs hd
  have n1 : Nat.beq f 240 = false := by cases b : Nat.beq f 240 with | false => rfl | true => exact absurd (Nat.eq_of_beq_eq_true b) h1
  have n2 : Nat.beq f 254 = false := by cases b : Nat.beq f 254 with | false => rfl | true => exact absurd (Nat.eq_of_beq_eq_true b) h2
  have e : An.ext f = none := by show cond (Nat.beq f 240) (some repI) (cond (Nat.beq f 254) (some rep3) none) = none; rw [n1, n2]; rfl
  rw [e] at h; cases h
end Go.Proofs.YtoldpdhhfmlckaaGreat
end
section
namespace Go.Proofs.YtoldpdhhfmlckaaGreat
open Go.Ev
theorem qjc (k : Nat) (a : Int) : go (k + 1) impl_SplitEven [(.int .i64 (a))] =
 cond (decide (a < (0 : Int)))
 (some [(.int .i64 (0 : Int)), (.int .i64 (0 : Int))])
 (some [(.int .i64 (IntKind.wrap .i64 (a - IntKind.wrap .i64 (Int.tdiv a (2 : Int))))), (.int .i64 (IntKind.wrap .i64 (Int.tdiv a (2 : Int))))]) := by kernel_rfl
theorem qj7 (k : Nat) (a0 a1 a2 b : Int) : go (k + 1) impl_child [(.agg [(.int .i64 (a0)), (.int .i64 (a1)), (.int .i64 (a2))]), (.int .i64 (b))] =
 some [(.agg [(.int .i64 (a0)), (.int .i64 (IntKind.wrap .i64 (a1 + (1 : Int)))), (.int .i64 (IntKind.wrap .i64 (IntKind.wrap .i64 ((2 : Int) * a2) + b)))])] := by kernel_rfl
theorem qi0 (k : Nat) (a0 : Int) (a1z : Bool) (a1 : List (Int × Int × Int)) (b : Int) : go (k + 1) impl_Mesh_refine [(.ptr true [(.int .i64 (a0)), (.arr true (a1z) (.r3 (a1)))]), (.int .i64 (b))] =
 cond (decide ((0 : Int) ≤ b) && decide (b < nI (List.length a1)))
 ((go k impl_child [(.agg [(.int .i64 (Prod.fst (List.getD a1 (Int.toNat b) zz3))), (.int .i64 (Prod.fst (Prod.snd (List.getD a1 (Int.toNat b) zz3)))), (.int .i64 (Prod.snd (Prod.snd (List.getD a1 (Int.toNat b) zz3))))]), (.int .i64 (0 : Int))]).bind fun r0 =>
 (go k impl_child [(.agg [(.int .i64 (Prod.fst (List.getD a1 (Int.toNat b) zz3))), (.int .i64 (Prod.fst (Prod.snd (List.getD a1 (Int.toNat b) zz3)))), (.int .i64 (Prod.snd (Prod.snd (List.getD a1 (Int.toNat b) zz3))))]), (.int .i64 ((1 : Int)))]).bind fun r1 =>
 (go k slices_Replace_impl_Id_impl_Id [(.arr true (a1z) (.r3 (a1))), (.int .i64 (b)), (.int .i64 (IntKind.wrap .i64 (b + (1 : Int)))), (.arr false (false) (.r3 ([(D.toInt (D.cell 0 (nth r0 0)), D.toInt (D.cell 1 (nth r0 0)), D.toInt (D.cell 2 (nth r0 0))), (D.toInt (D.cell 0 (nth r1 0)), D.toInt (D.cell 1 (nth r1 0)), D.toInt (D.cell 2 (nth r1 0)))])))]).bind fun r2 =>
 some [(.ptr true [(.int .i64 (a0)), (.arr true (D.nil (nth r2 0)) (.r3 (D.r3 (nth r2 0))))])])
 (none) := by kernel_rfl
theorem qiv (k : Nat) (a0 : Int) (a1z : Bool) (a1 : List (Int × Int × Int)) (b : Int) : go (k + 1) impl_Mesh_coarsen [(.ptr true [(.int .i64 (a0)), (.arr true (a1z) (.r3 (a1)))]), (.int .i64 (b))] =
 cond (decide ((0 : Int) ≤ b) && decide (b < nI (List.length a1)))
 ((go k impl_ParentOf [(.agg [(.int .i64 (Prod.fst (List.getD a1 (Int.toNat b) zz3))), (.int .i64 (Prod.fst (Prod.snd (List.getD a1 (Int.toNat b) zz3)))), (.int .i64 (Prod.snd (Prod.snd (List.getD a1 (Int.toNat b) zz3))))])]).bind fun r0 =>
 (go k slices_Replace_impl_Id_impl_Id [(.arr true (a1z) (.r3 (a1))), (.int .i64 (b)), (.int .i64 (IntKind.wrap .i64 (b + (2 : Int)))), (.arr false (false) (.r3 ([(D.toInt (D.cell 0 (nth r0 0)), D.toInt (D.cell 1 (nth r0 0)), D.toInt (D.cell 2 (nth r0 0)))])))]).bind fun r1 =>
 some [(.ptr true [(.int .i64 (a0)), (.arr true (D.nil (nth r1 0)) (.r3 (D.r3 (nth r1 0))))])])
 (none) := by kernel_rfl
theorem qjt (k : Nat) (a0 : Int) (a1z : Bool) (a1 : List (Int × Int × Int)) (a2z : Bool) (a2 : List Int) (a3z : Bool) (a3 : List Int) (a4z : Bool) (a4 : List Int) (b : Int) : go (k + 1) impl_State_refine [(.ptr true [(.int .i64 (a0)), (.arr true (a1z) (.r3 (a1))), (.arr true (a2z) (.ints .i64 (a2))), (.arr true (a3z) (.ints .i64 (a3))), (.arr true (a4z) (.ints .i64 (a4)))]), (.int .i64 (b))] =
 cond (decide ((0 : Int) ≤ b) && decide (b < nI (List.length a2)))
 ((go k impl_SplitEven [(.int .i64 (List.getD a2 (Int.toNat b) (0 : Int)))]).bind fun r0 =>
 cond (decide ((0 : Int) ≤ b) && decide (b < nI (List.length a3)))
 (cond (decide ((0 : Int) ≤ b) && decide (b < nI (List.length a2)))
 ((go k impl_ShareOut [(.int .i64 (List.getD a3 (Int.toNat b) (0 : Int))), (.int .i64 (D.toInt (nth r0 0))), (.int .i64 (List.getD a2 (Int.toNat b) (0 : Int)))]).bind fun r1 =>
 (go k impl_Mesh_refine [(.ptr true [(.int .i64 (a0)), (.arr true (a1z) (.r3 (a1)))]), (.int .i64 (b))]).bind fun r2 =>
 (go k slices_Replace_int_int [(.arr true (a2z) (.ints .i64 (a2))), (.int .i64 (b)), (.int .i64 (IntKind.wrap .i64 (b + (1 : Int)))), (.arr false (false) (.ints .i64 ([D.toInt (nth r0 0), D.toInt (nth r0 1)])))]).bind fun r3 =>
 cond (decide ((0 : Int) ≤ b) && decide (b < nI (List.length a3)))
 ((go k slices_Replace_int_int [(.arr true (a3z) (.ints .i64 (a3))), (.int .i64 (b)), (.int .i64 (IntKind.wrap .i64 (b + (1 : Int)))), (.arr false (false) (.ints .i64 ([D.toInt (nth r1 0), IntKind.wrap .i64 (List.getD a3 (Int.toNat b) (0 : Int) - D.toInt (nth r1 0))])))]).bind fun r4 =>
 some [(.ptr true [(.int .i64 (D.toInt (D.cell 0 (nth r2 0)))), (.arr true (D.nil (D.cell 1 (nth r2 0))) (.r3 (D.r3 (D.cell 1 (nth r2 0))))), (.arr true (D.nil (nth r3 0)) (.ints .i64 (D.ints (nth r3 0)))), (.arr true (D.nil (nth r4 0)) (.ints .i64 (D.ints (nth r4 0)))), (.arr true (a4z) (.ints .i64 (a4)))])])
 (none))
 (none))
 (none))
 (none) := by kernel_rfl
theorem qji (k : Nat) (a0 : Int) (a1z : Bool) (a1 : List (Int × Int × Int)) (a2z : Bool) (a2 : List Int) (a3z : Bool) (a3 : List Int) (a4z : Bool) (a4 : List Int) (b : Int) : go (k + 1) impl_State_coarsen [(.ptr true [(.int .i64 (a0)), (.arr true (a1z) (.r3 (a1))), (.arr true (a2z) (.ints .i64 (a2))), (.arr true (a3z) (.ints .i64 (a3))), (.arr true (a4z) (.ints .i64 (a4)))]), (.int .i64 (b))] =
 (go k impl_Mesh_coarsen [(.ptr true [(.int .i64 (a0)), (.arr true (a1z) (.r3 (a1)))]), (.int .i64 (b))]).bind fun r0 =>
 cond (decide ((0 : Int) ≤ b) && decide (b < nI (List.length a2)))
 (cond (decide ((0 : Int) ≤ IntKind.wrap .i64 (b + (1 : Int))) && decide (IntKind.wrap .i64 (b + (1 : Int)) < nI (List.length a2)))
 ((go k slices_Replace_int_int [(.arr true (a2z) (.ints .i64 (a2))), (.int .i64 (b)), (.int .i64 (IntKind.wrap .i64 (b + (2 : Int)))), (.arr false (false) (.ints .i64 ([IntKind.wrap .i64 (List.getD a2 (Int.toNat b) (0 : Int) + List.getD a2 (Int.toNat (IntKind.wrap .i64 (b + (1 : Int)))) (0 : Int))])))]).bind fun r1 =>
 cond (decide ((0 : Int) ≤ b) && decide (b < nI (List.length a3)))
 (cond (decide ((0 : Int) ≤ IntKind.wrap .i64 (b + (1 : Int))) && decide (IntKind.wrap .i64 (b + (1 : Int)) < nI (List.length a3)))
 ((go k slices_Replace_int_int [(.arr true (a3z) (.ints .i64 (a3))), (.int .i64 (b)), (.int .i64 (IntKind.wrap .i64 (b + (2 : Int)))), (.arr false (false) (.ints .i64 ([IntKind.wrap .i64 (List.getD a3 (Int.toNat b) (0 : Int) + List.getD a3 (Int.toNat (IntKind.wrap .i64 (b + (1 : Int)))) (0 : Int))])))]).bind fun r2 =>
 some [(.ptr true [(.int .i64 (D.toInt (D.cell 0 (nth r0 0)))), (.arr true (D.nil (D.cell 1 (nth r0 0))) (.r3 (D.r3 (D.cell 1 (nth r0 0))))), (.arr true (D.nil (nth r1 0)) (.ints .i64 (D.ints (nth r1 0)))), (.arr true (D.nil (nth r2 0)) (.ints .i64 (D.ints (nth r2 0)))), (.arr true (a4z) (.ints .i64 (a4)))])])
 (none))
 (none))
 (none))
 (none) := by kernel_rfl
theorem qln (k : Nat) (a0 a1 a2 : Int) : go (k + 1) spec_ParentOf [(.agg [(.int .i64 (a0)), (.int .i64 (a1)), (.int .i64 (a2))])] =
 (go k spec_IdOk [(.agg [(.int .i64 (a0)), (.int .i64 (a1)), (.int .i64 (a2))])]).bind fun r0 =>
 cond (!bit (nth r0 0))
 (some [(.agg [(.int .i64 (0 : Int)), (.int .i64 (0 : Int)), (.int .i64 (0 : Int))]), (.bool (false))])
 (cond (decide (a1 = (0 : Int)))
 (some [(.agg [(.int .i64 (0 : Int)), (.int .i64 (0 : Int)), (.int .i64 (0 : Int))]), (.bool (false))])
 (some [(.agg [(.int .i64 (a0)), (.int .i64 (IntKind.wrap .i64 (a1 - (1 : Int)))), (.int .i64 (IntKind.wrap .i64 (Int.tdiv a2 (2 : Int))))]), (.bool (true))])) := by kernel_rfl
theorem qi3 (k : Nat) (a0 a1 a2 : Int) : go (k + 1) impl_ParentOf [(.agg [(.int .i64 (a0)), (.int .i64 (a1)), (.int .i64 (a2))])] =
 (go k impl_IdOk [(.agg [(.int .i64 (a0)), (.int .i64 (a1)), (.int .i64 (a2))])]).bind fun r0 =>
 cond (!bit (nth r0 0))
 (some [(.agg [(.int .i64 (0 : Int)), (.int .i64 (0 : Int)), (.int .i64 (0 : Int))]), (.bool (false))])
 (cond (decide (a1 = (0 : Int)))
 (some [(.agg [(.int .i64 (0 : Int)), (.int .i64 (0 : Int)), (.int .i64 (0 : Int))]), (.bool (false))])
 (some [(.agg [(.int .i64 (a0)), (.int .i64 (IntKind.wrap .i64 (a1 - (1 : Int)))), (.int .i64 (IntKind.wrap .i64 (Int.tdiv a2 (2 : Int))))]), (.bool (true))])) := by kernel_rfl
theorem qlh (k : Nat) (a0 a1 a2 b0 b1 b2 : Int) : go (k + 1) spec_IsSibling [(.agg [(.int .i64 (a0)), (.int .i64 (a1)), (.int .i64 (a2))]), (.agg [(.int .i64 (b0)), (.int .i64 (b1)), (.int .i64 (b2))])] =
 (go k spec_IdOk [(.agg [(.int .i64 (a0)), (.int .i64 (a1)), (.int .i64 (a2))])]).bind fun r0 =>
 cond (bit (nth r0 0))
 ((go k spec_IdOk [(.agg [(.int .i64 (b0)), (.int .i64 (b1)), (.int .i64 (b2))])]).bind fun r1 =>
 cond (bit (nth r1 0))
 (cond (decide (a0 = b0))
 (cond (decide (a1 = b1))
 (cond (decide (Int.tmod a2 (2 : Int) = (0 : Int)))
 (some [(.bool (decide (b2 = IntKind.wrap .i64 (a2 + (1 : Int)))))])
 (some [(.bool (false))]))
 (some [(.bool (false))]))
 (some [(.bool (false))]))
 (some [(.bool (false))]))
 (some [(.bool (false))]) := by kernel_rfl
theorem qio (k : Nat) (a0 a1 a2 b0 b1 b2 : Int) : go (k + 1) impl_IsSibling [(.agg [(.int .i64 (a0)), (.int .i64 (a1)), (.int .i64 (a2))]), (.agg [(.int .i64 (b0)), (.int .i64 (b1)), (.int .i64 (b2))])] =
 (go k impl_ParentOf [(.agg [(.int .i64 (a0)), (.int .i64 (a1)), (.int .i64 (a2))])]).bind fun r0 =>
 (go k impl_ParentOf [(.agg [(.int .i64 (b0)), (.int .i64 (b1)), (.int .i64 (b2))])]).bind fun r1 =>
 cond (bit (nth r0 1))
 (cond (bit (nth r1 1))
 (cond (decide (D.toInt (D.cell 0 (nth r0 0)) = D.toInt (D.cell 0 (nth r1 0))) && (decide (D.toInt (D.cell 1 (nth r0 0)) = D.toInt (D.cell 1 (nth r1 0))) && (decide (D.toInt (D.cell 2 (nth r0 0)) = D.toInt (D.cell 2 (nth r1 0))) && true)))
 (cond (decide (Int.tmod a2 (2 : Int) = (0 : Int)))
 (some [(.bool (decide (b2 = IntKind.wrap .i64 (a2 + (1 : Int)))))])
 (some [(.bool (false))]))
 (some [(.bool (false))]))
 (some [(.bool (false))]))
 (some [(.bool (false))]) := by kernel_rfl
theorem qiy (k : Nat) (a0 : Int) (a1z : Bool) (a1 : List (Int × Int × Int)) (b : Int) : go (k + 1) impl_Mesh_mayCoarsen [(.agg [(.int .i64 (a0)), (.arr false (a1z) (.r3 (a1)))]), (.int .i64 (b))] =
 (go k impl_Mesh_has [(.agg [(.int .i64 (a0)), (.arr false (a1z) (.r3 (a1)))]), (.int .i64 (b))]).bind fun r0 =>
 cond (!bit (nth r0 0))
 (some [(.bool (false))])
 ((go k impl_Mesh_has [(.agg [(.int .i64 (a0)), (.arr false (a1z) (.r3 (a1)))]), (.int .i64 (IntKind.wrap .i64 (b + (1 : Int))))]).bind fun r1 =>
 cond (!bit (nth r1 0))
 (some [(.bool (false))])
 (cond (decide ((0 : Int) ≤ b) && decide (b < nI (List.length a1)))
 (cond (decide ((0 : Int) ≤ IntKind.wrap .i64 (b + (1 : Int))) && decide (IntKind.wrap .i64 (b + (1 : Int)) < nI (List.length a1)))
 ((go k impl_IsSibling [(.agg [(.int .i64 (Prod.fst (List.getD a1 (Int.toNat b) zz3))), (.int .i64 (Prod.fst (Prod.snd (List.getD a1 (Int.toNat b) zz3)))), (.int .i64 (Prod.snd (Prod.snd (List.getD a1 (Int.toNat b) zz3))))]), (.agg [(.int .i64 (Prod.fst (List.getD a1 (Int.toNat (IntKind.wrap .i64 (b + (1 : Int)))) zz3))), (.int .i64 (Prod.fst (Prod.snd (List.getD a1 (Int.toNat (IntKind.wrap .i64 (b + (1 : Int)))) zz3)))), (.int .i64 (Prod.snd (Prod.snd (List.getD a1 (Int.toNat (IntKind.wrap .i64 (b + (1 : Int)))) zz3))))])]).bind fun r2 =>
 cond (!bit (nth r2 0))
 (some [(.bool (false))])
 (cond (decide ((0 : Int) ≤ b) && decide (b < nI (List.length a1)))
 ((go k impl_Mesh_has [(.agg [(.int .i64 (a0)), (.arr false (a1z) (.r3 (a1)))]), (.int .i64 (IntKind.wrap .i64 (b - (1 : Int))))]).bind fun r3 =>
 cond (bit (nth r3 0))
 (cond (decide ((0 : Int) ≤ IntKind.wrap .i64 (b - (1 : Int))) && decide (IntKind.wrap .i64 (b - (1 : Int)) < nI (List.length a1)))
 (cond (!decide (Prod.fst (Prod.snd (List.getD a1 (Int.toNat b) zz3)) < Prod.fst (Prod.snd (List.getD a1 (Int.toNat (IntKind.wrap .i64 (b - (1 : Int)))) zz3))))
 ((go k impl_Mesh_has [(.agg [(.int .i64 (a0)), (.arr false (a1z) (.r3 (a1)))]), (.int .i64 (IntKind.wrap .i64 (b + (2 : Int))))]).bind fun r4 =>
 cond (bit (nth r4 0))
 (cond (decide ((0 : Int) ≤ IntKind.wrap .i64 (b + (2 : Int))) && decide (IntKind.wrap .i64 (b + (2 : Int)) < nI (List.length a1)))
 (some [(.bool (!decide (Prod.fst (Prod.snd (List.getD a1 (Int.toNat b) zz3)) < Prod.fst (Prod.snd (List.getD a1 (Int.toNat (IntKind.wrap .i64 (b + (2 : Int)))) zz3)))))])
 (none))
 (some [(.bool (!false))]))
 (some [(.bool (false))]))
 (none))
 ((go k impl_Mesh_has [(.agg [(.int .i64 (a0)), (.arr false (a1z) (.r3 (a1)))]), (.int .i64 (IntKind.wrap .i64 (b + (2 : Int))))]).bind fun r5 =>
 cond (bit (nth r5 0))
 (cond (decide ((0 : Int) ≤ IntKind.wrap .i64 (b + (2 : Int))) && decide (IntKind.wrap .i64 (b + (2 : Int)) < nI (List.length a1)))
 (some [(.bool (!decide (Prod.fst (Prod.snd (List.getD a1 (Int.toNat b) zz3)) < Prod.fst (Prod.snd (List.getD a1 (Int.toNat (IntKind.wrap .i64 (b + (2 : Int)))) zz3)))))])
 (none))
 (some [(.bool (!false))])))
 (none)))
 (none))
 (none))) := by kernel_rfl
theorem qi1 (k : Nat) (a0 : Int) (a1z : Bool) (a1 : List (Int × Int × Int)) : go (k + 1) impl_Mesh_toRefine [(.agg [(.int .i64 (a0)), (.arr false (a1z) (.r3 (a1)))])] =
 (go k impl_Mesh_unbalanced [(.agg [(.int .i64 (a0)), (.arr false (a1z) (.r3 (a1)))])]).bind fun r0 =>
 cond (decide ((0 : Int) ≤ D.toInt (nth r0 0)))
 (cond (decide ((0 : Int) ≤ D.toInt (nth r0 0)) && decide (D.toInt (nth r0 0) < nI (List.length a1)))
 (cond (decide ((0 : Int) ≤ IntKind.wrap .i64 (D.toInt (nth r0 0) + (1 : Int))) && decide (IntKind.wrap .i64 (D.toInt (nth r0 0) + (1 : Int)) < nI (List.length a1)))
 (cond (decide (Prod.fst (Prod.snd (List.getD a1 (Int.toNat (IntKind.wrap .i64 (D.toInt (nth r0 0) + (1 : Int)))) zz3)) < Prod.fst (Prod.snd (List.getD a1 (Int.toNat (D.toInt (nth r0 0))) zz3))))
 (some [(.int .i64 (IntKind.wrap .i64 (D.toInt (nth r0 0) + (1 : Int))))])
 (some [(.int .i64 (D.toInt (nth r0 0)))]))
 (none))
 (none))
 (some [(.int .i64 (D.toInt (nth r0 0)))]) := by kernel_rfl

end Go.Proofs.YtoldpdhhfmlckaaGreat
end
section
namespace Go.Proofs.YtoldpdhhfmlckaaGreat
open Go.Ev
def qwb (x0 : Int) (z1 : Bool) (l2 : List (Int × Int × Int)) (z3 : Bool) (l4 : List Int) (z5 : Bool) (l6 : List Int) (z7 : Bool) (l8 : List Int) (x9 : Int) : St := ⟨fill 18 [(0, (.ptr 4 (0) (0))), (2, (.int .i64 (x0)))], [(.ptr 4 (0) (0))], [(.arr true (z1) (.r3 (l2))), (.arr true (z3) (.ints .i64 (l4))), (.arr true (z5) (.ints .i64 (l6))), (.arr true (z7) (.ints .i64 (l8))), (.box true [(.int .i64 (x9)), (.sl 0 none), (.sl 1 none), (.sl 2 none), (.sl 3 none)])]⟩
theorem qjg (k : Nat) (a0 : Int) (a1z : Bool) (a1 : List (Int × Int × Int)) (a2z : Bool) (a2 : List Int) (a3z : Bool) (a3 : List Int) (a4z : Bool) (a4 : List Int) : go (k + 1) impl_State_balance [(.ptr true [(.int .i64 (a0)), (.arr true (a1z) (.r3 (a1))), (.arr true (a2z) (.ints .i64 (a2))), (.arr true (a3z) (.ints .i64 (a3))), (.arr true (a4z) (.ints .i64 (a4)))])] =
 (go k impl_Mesh_toRefine [(.agg [(.int .i64 (a0)), (.arr false (a1z) (.r3 (a1)))])]).bind fun r0 =>
 lp k impl_State_balance [(.ptr true [(.int .i64 (a0)), (.arr true (a1z) (.r3 (a1))), (.arr true (a2z) (.ints .i64 (a2))), (.arr true (a3z) (.ints .i64 (a3))), (.arr true (a4z) (.ints .i64 (a4)))])] [] 1 k (qwb (D.toInt (nth r0 0)) a1z a1 a2z a2 a3z a3 a4z a4 a0) := by kernel_rfl
theorem qo1 (k n : Nat) (fu : List (Nat × Nat)) (a0 : Int) (a1z : Bool) (a1 : List (Int × Int × Int)) (a2z : Bool) (a2 : List Int) (a3z : Bool) (a3 : List Int) (a4z : Bool) (a4 : List Int) (x0 : Int) (z1 : Bool) (l2 : List (Int × Int × Int)) (z3 : Bool) (l4 : List Int) (z5 : Bool) (l6 : List Int) (z7 : Bool) (l8 : List Int) (x9 : Int) : lp k impl_State_balance [(.ptr true [(.int .i64 (a0)), (.arr true (a1z) (.r3 (a1))), (.arr true (a2z) (.ints .i64 (a2))), (.arr true (a3z) (.ints .i64 (a3))), (.arr true (a4z) (.ints .i64 (a4)))])] fu 1 (n + 1) (qwb x0 z1 l2 z3 l4 z5 l6 z7 l8 x9) =
 cond (decide ((0 : Int) ≤ x0))
 ((go k impl_State_refine [(.ptr true [(.int .i64 (x9)), (.arr true (z1) (.r3 (l2))), (.arr true (z3) (.ints .i64 (l4))), (.arr true (z5) (.ints .i64 (l6))), (.arr true (z7) (.ints .i64 (l8)))]), (.int .i64 (x0))]).bind fun r0 =>
 (go k impl_Mesh_toRefine [(.agg [(.int .i64 (D.toInt (D.cell 0 (nth r0 0)))), (.arr false (D.nil (D.cell 1 (nth r0 0))) (.r3 (D.r3 (D.cell 1 (nth r0 0)))))])]).bind fun r1 =>
 lp k impl_State_balance [(.ptr true [(.int .i64 (a0)), (.arr true (a1z) (.r3 (a1))), (.arr true (a2z) (.ints .i64 (a2))), (.arr true (a3z) (.ints .i64 (a3))), (.arr true (a4z) (.ints .i64 (a4)))])] fu 1 n (qwb (D.toInt (nth r1 0)) (D.nil (D.cell 1 (nth r0 0))) (D.r3 (D.cell 1 (nth r0 0))) (D.nil (D.cell 2 (nth r0 0))) (D.ints (D.cell 2 (nth r0 0))) (D.nil (D.cell 3 (nth r0 0))) (D.ints (D.cell 3 (nth r0 0))) (D.nil (D.cell 4 (nth r0 0))) (D.ints (D.cell 4 (nth r0 0))) (D.toInt (D.cell 0 (nth r0 0)))))
 (some [(.ptr true [(.int .i64 (x9)), (.arr true (z1) (.r3 (l2))), (.arr true (z3) (.ints .i64 (l4))), (.arr true (z5) (.ints .i64 (l6))), (.arr true (z7) (.ints .i64 (l8)))])]) := by kernel_rfl
def qv9 (x0 : Int) (z1 : Bool) (l2 : List (Int × Int × Int)) (z3 : Bool) (l4 : List Int) (z5 : Bool) (l6 : List Int) (z7 : Bool) (l8 : List Int) (x9 : Int) (l10 : List (Int × Int × Int)) : St := ⟨fill 91 [(0, (.ptr 4 (0) (0))), (7, (.mp 5)), (9, (.int .i64 (x0)))], [(.ptr 4 (0) (0))], [(.arr true (z1) (.r3 (l2))), (.arr true (z3) (.ints .i64 (l4))), (.arr true (z5) (.ints .i64 (l6))), (.arr true (z7) (.ints .i64 (l8))), (.box true [(.int .i64 (x9)), (.sl 0 none), (.sl 1 none), (.sl 2 none), (.sl 3 none)]), (.mp (l10))]⟩
def qwa (x0 : Int) (z1 : Bool) (l2 : List (Int × Int × Int)) (z3 : Bool) (l4 : List Int) (z5 : Bool) (l6 : List Int) (z7 : Bool) (l8 : List Int) (x9 : Int) (z10 : Bool) (l11 : List Int) (l12 : List (Int × Int × Int)) : St := ⟨fill 91 [(0, (.ptr 4 (0) (0))), (6, (.sl 5 none)), (7, (.mp 6)), (8, (.int .i64 (x0)))], [(.ptr 4 (0) (0))], [(.arr true (z1) (.r3 (l2))), (.arr true (z3) (.ints .i64 (l4))), (.arr true (z5) (.ints .i64 (l6))), (.arr true (z7) (.ints .i64 (l8))), (.box true [(.int .i64 (x9)), (.sl 0 none), (.sl 1 none), (.sl 2 none), (.sl 3 none)]), (.arr true (z10) (.ints .i64 (l11))), (.mp (l12))]⟩
theorem qjf (k : Nat) (a0 : Int) (a1z : Bool) (a1 : List (Int × Int × Int)) (a2z : Bool) (a2 : List Int) (a3z : Bool) (a3 : List Int) (a4z : Bool) (a4 : List Int) (b c : Int) : go (k + 1) impl_State_adapt [(.ptr true [(.int .i64 (a0)), (.arr true (a1z) (.r3 (a1))), (.arr true (a2z) (.ints .i64 (a2))), (.arr true (a3z) (.ints .i64 (a3))), (.arr true (a4z) (.ints .i64 (a4)))]), (.int .i64 (b)), (.int .i64 (c))] =
 (go k impl_Wishes [(.agg [(.int .i64 (a0)), (.arr false (a1z) (.r3 (a1))), (.arr false (a2z) (.ints .i64 (a2))), (.arr false (a3z) (.ints .i64 (a3))), (.arr false (a4z) (.ints .i64 (a4)))]), (.int .i64 (b)), (.int .i64 (c))]).bind fun r0 =>
 lp k impl_State_adapt [(.ptr true [(.int .i64 (a0)), (.arr true (a1z) (.r3 (a1))), (.arr true (a2z) (.ints .i64 (a2))), (.arr true (a3z) (.ints .i64 (a3))), (.arr true (a4z) (.ints .i64 (a4)))])] [] 3 k (qwa (IntKind.wrap .i64 (nI (List.length (D.ints (nth r0 0))) - (1 : Int))) a1z a1 a2z a2 a3z a3 a4z a4 a0 (D.nil (nth r0 0)) (D.ints (nth r0 0)) ([])) := by kernel_rfl
theorem qoz (k n : Nat) (fu : List (Nat × Nat)) (a0 : Int) (a1z : Bool) (a1 : List (Int × Int × Int)) (a2z : Bool) (a2 : List Int) (a3z : Bool) (a3 : List Int) (a4z : Bool) (a4 : List Int) (x0 : Int) (z1 : Bool) (l2 : List (Int × Int × Int)) (z3 : Bool) (l4 : List Int) (z5 : Bool) (l6 : List Int) (z7 : Bool) (l8 : List Int) (x9 : Int) (l10 : List (Int × Int × Int)) : lp k impl_State_adapt [(.ptr true [(.int .i64 (a0)), (.arr true (a1z) (.r3 (a1))), (.arr true (a2z) (.ints .i64 (a2))), (.arr true (a3z) (.ints .i64 (a3))), (.arr true (a4z) (.ints .i64 (a4)))])] fu 12 (n + 1) (qv9 x0 z1 l2 z3 l4 z5 l6 z7 l8 x9 l10) =
 cond (decide (IntKind.wrap .i64 (x0 + (1 : Int)) < nI (List.length l2)))
 (cond (decide ((0 : Int) ≤ x0) && decide (x0 < nI (List.length l2)))
 (cond (hasK l10 (Prod.fst (List.getD l2 (Int.toNat x0) zz3), Prod.fst (Prod.snd (List.getD l2 (Int.toNat x0) zz3)), Prod.snd (Prod.snd (List.getD l2 (Int.toNat x0) zz3))))
 (cond (decide ((0 : Int) ≤ IntKind.wrap .i64 (x0 + (1 : Int))) && decide (IntKind.wrap .i64 (x0 + (1 : Int)) < nI (List.length l2)))
 (cond (hasK l10 (Prod.fst (List.getD l2 (Int.toNat (IntKind.wrap .i64 (x0 + (1 : Int)))) zz3), Prod.fst (Prod.snd (List.getD l2 (Int.toNat (IntKind.wrap .i64 (x0 + (1 : Int)))) zz3)), Prod.snd (Prod.snd (List.getD l2 (Int.toNat (IntKind.wrap .i64 (x0 + (1 : Int)))) zz3))))
 ((go k impl_Mesh_mayCoarsen [(.agg [(.int .i64 (x9)), (.arr false (z1) (.r3 (l2)))]), (.int .i64 (x0))]).bind fun r0 =>
 cond (bit (nth r0 0))
 ((go k impl_State_coarsen [(.ptr true [(.int .i64 (x9)), (.arr true (z1) (.r3 (l2))), (.arr true (z3) (.ints .i64 (l4))), (.arr true (z5) (.ints .i64 (l6))), (.arr true (z7) (.ints .i64 (l8)))]), (.int .i64 (x0))]).bind fun r1 =>
 lp k impl_State_adapt [(.ptr true [(.int .i64 (a0)), (.arr true (a1z) (.r3 (a1))), (.arr true (a2z) (.ints .i64 (a2))), (.arr true (a3z) (.ints .i64 (a3))), (.arr true (a4z) (.ints .i64 (a4)))])] fu 12 n (qv9 (IntKind.wrap .i64 (x0 + (1 : Int))) (D.nil (D.cell 1 (nth r1 0))) (D.r3 (D.cell 1 (nth r1 0))) (D.nil (D.cell 2 (nth r1 0))) (D.ints (D.cell 2 (nth r1 0))) (D.nil (D.cell 3 (nth r1 0))) (D.ints (D.cell 3 (nth r1 0))) (D.nil (D.cell 4 (nth r1 0))) (D.ints (D.cell 4 (nth r1 0))) (D.toInt (D.cell 0 (nth r1 0))) l10))
 (lp k impl_State_adapt [(.ptr true [(.int .i64 (a0)), (.arr true (a1z) (.r3 (a1))), (.arr true (a2z) (.ints .i64 (a2))), (.arr true (a3z) (.ints .i64 (a3))), (.arr true (a4z) (.ints .i64 (a4)))])] fu 12 n (qv9 (IntKind.wrap .i64 (x0 + (1 : Int))) z1 l2 z3 l4 z5 l6 z7 l8 x9 l10)))
 (lp k impl_State_adapt [(.ptr true [(.int .i64 (a0)), (.arr true (a1z) (.r3 (a1))), (.arr true (a2z) (.ints .i64 (a2))), (.arr true (a3z) (.ints .i64 (a3))), (.arr true (a4z) (.ints .i64 (a4)))])] fu 12 n (qv9 (IntKind.wrap .i64 (x0 + (1 : Int))) z1 l2 z3 l4 z5 l6 z7 l8 x9 l10)))
 (none))
 (lp k impl_State_adapt [(.ptr true [(.int .i64 (a0)), (.arr true (a1z) (.r3 (a1))), (.arr true (a2z) (.ints .i64 (a2))), (.arr true (a3z) (.ints .i64 (a3))), (.arr true (a4z) (.ints .i64 (a4)))])] fu 12 n (qv9 (IntKind.wrap .i64 (x0 + (1 : Int))) z1 l2 z3 l4 z5 l6 z7 l8 x9 l10)))
 (none))
 (some [(.ptr true [(.int .i64 (x9)), (.arr true (z1) (.r3 (l2))), (.arr true (z3) (.ints .i64 (l4))), (.arr true (z5) (.ints .i64 (l6))), (.arr true (z7) (.ints .i64 (l8)))])]) := by kernel_rfl
theorem qo0 (k n : Nat) (fu : List (Nat × Nat)) (a0 : Int) (a1z : Bool) (a1 : List (Int × Int × Int)) (a2z : Bool) (a2 : List Int) (a3z : Bool) (a3 : List Int) (a4z : Bool) (a4 : List Int) (x0 : Int) (z1 : Bool) (l2 : List (Int × Int × Int)) (z3 : Bool) (l4 : List Int) (z5 : Bool) (l6 : List Int) (z7 : Bool) (l8 : List Int) (x9 : Int) (z10 : Bool) (l11 : List Int) (l12 : List (Int × Int × Int)) : lp k impl_State_adapt [(.ptr true [(.int .i64 (a0)), (.arr true (a1z) (.r3 (a1))), (.arr true (a2z) (.ints .i64 (a2))), (.arr true (a3z) (.ints .i64 (a3))), (.arr true (a4z) (.ints .i64 (a4)))])] fu 3 (n + 1) (qwa x0 z1 l2 z3 l4 z5 l6 z7 l8 x9 z10 l11 l12) =
 cond (decide ((0 : Int) ≤ x0))
 (cond (decide ((0 : Int) ≤ x0) && decide (x0 < nI (List.length l11)))
 (cond (decide (List.getD l11 (Int.toNat x0) (0 : Int) = (1 : Int)))
 ((go k impl_State_refine [(.ptr true [(.int .i64 (x9)), (.arr true (z1) (.r3 (l2))), (.arr true (z3) (.ints .i64 (l4))), (.arr true (z5) (.ints .i64 (l6))), (.arr true (z7) (.ints .i64 (l8)))]), (.int .i64 (x0))]).bind fun r0 =>
 lp k impl_State_adapt [(.ptr true [(.int .i64 (a0)), (.arr true (a1z) (.r3 (a1))), (.arr true (a2z) (.ints .i64 (a2))), (.arr true (a3z) (.ints .i64 (a3))), (.arr true (a4z) (.ints .i64 (a4)))])] fu 3 n (qwa (IntKind.wrap .i64 (x0 - (1 : Int))) (D.nil (D.cell 1 (nth r0 0))) (D.r3 (D.cell 1 (nth r0 0))) (D.nil (D.cell 2 (nth r0 0))) (D.ints (D.cell 2 (nth r0 0))) (D.nil (D.cell 3 (nth r0 0))) (D.ints (D.cell 3 (nth r0 0))) (D.nil (D.cell 4 (nth r0 0))) (D.ints (D.cell 4 (nth r0 0))) (D.toInt (D.cell 0 (nth r0 0))) z10 l11 l12))
 (cond (decide (List.getD l11 (Int.toNat x0) (0 : Int) = (-1 : Int)))
 (cond (decide ((0 : Int) ≤ x0) && decide (x0 < nI (List.length l2)))
 (lp k impl_State_adapt [(.ptr true [(.int .i64 (a0)), (.arr true (a1z) (.r3 (a1))), (.arr true (a2z) (.ints .i64 (a2))), (.arr true (a3z) (.ints .i64 (a3))), (.arr true (a4z) (.ints .i64 (a4)))])] fu 3 n (qwa (IntKind.wrap .i64 (x0 - (1 : Int))) z1 l2 z3 l4 z5 l6 z7 l8 x9 z10 l11 (l12 ++ [(Prod.fst (List.getD l2 (Int.toNat x0) zz3), Prod.fst (Prod.snd (List.getD l2 (Int.toNat x0) zz3)), Prod.snd (Prod.snd (List.getD l2 (Int.toNat x0) zz3)))])))
 (none))
 (lp k impl_State_adapt [(.ptr true [(.int .i64 (a0)), (.arr true (a1z) (.r3 (a1))), (.arr true (a2z) (.ints .i64 (a2))), (.arr true (a3z) (.ints .i64 (a3))), (.arr true (a4z) (.ints .i64 (a4)))])] fu 3 n (qwa (IntKind.wrap .i64 (x0 - (1 : Int))) z1 l2 z3 l4 z5 l6 z7 l8 x9 z10 l11 l12))))
 (none))
 ((go k impl_State_balance [(.ptr true [(.int .i64 (x9)), (.arr true (z1) (.r3 (l2))), (.arr true (z3) (.ints .i64 (l4))), (.arr true (z5) (.ints .i64 (l6))), (.arr true (z7) (.ints .i64 (l8)))])]).bind fun r1 =>
 lp k impl_State_adapt [(.ptr true [(.int .i64 (a0)), (.arr true (a1z) (.r3 (a1))), (.arr true (a2z) (.ints .i64 (a2))), (.arr true (a3z) (.ints .i64 (a3))), (.arr true (a4z) (.ints .i64 (a4)))])] fu 12 k (qv9 (0 : Int) (D.nil (D.cell 1 (nth r1 0))) (D.r3 (D.cell 1 (nth r1 0))) (D.nil (D.cell 2 (nth r1 0))) (D.ints (D.cell 2 (nth r1 0))) (D.nil (D.cell 3 (nth r1 0))) (D.ints (D.cell 3 (nth r1 0))) (D.nil (D.cell 4 (nth r1 0))) (D.ints (D.cell 4 (nth r1 0))) (D.toInt (D.cell 0 (nth r1 0))) l12)) := by kernel_rfl
def qwe (x0 x1 x2 x3 : Int) (z4 : Bool) (l5 : List (Int × Int × Int)) (z6 : Bool) (l7 : List Int) (z8 : Bool) (l9 : List Int) (z10 : Bool) (l11 : List Int) (x12 : Int) (z13 : Bool) (l14 : List Int) : St := ⟨fill 29 [(1, (.int .i64 (x0))), (2, (.ptr 4 (0) (0))), (5, (.int .i64 (x1))), (11, (.sl 5 none)), (12, (.int .i64 (x2))), (13, (.int .i64 (x3)))], [], [(.arr false (z4) (.r3 (l5))), (.arr false (z6) (.ints .i64 (l7))), (.arr false (z8) (.ints .i64 (l9))), (.arr false (z10) (.ints .i64 (l11))), (.box true [(.int .i64 (x12)), (.sl 0 none), (.sl 1 none), (.sl 2 none), (.sl 3 none)]), (.arr true (z13) (.ints .i64 (l14)))]⟩
theorem qjn (k : Nat) (a0 : Int) (a1z : Bool) (a1 : List (Int × Int × Int)) (a2z : Bool) (a2 : List Int) (a3z : Bool) (a3 : List Int) (a4z : Bool) (a4 : List Int) (b : Int) : go (k + 1) impl_State_jump [(.agg [(.int .i64 (a0)), (.arr false (a1z) (.r3 (a1))), (.arr false (a2z) (.ints .i64 (a2))), (.arr false (a3z) (.ints .i64 (a3))), (.arr false (a4z) (.ints .i64 (a4)))]), (.int .i64 (b))] =
 (go k impl_Mesh_neighbours [(.agg [(.int .i64 (a0)), (.arr false (a1z) (.r3 (a1)))]), (.int .i64 (b))]).bind fun r0 =>
 lp k impl_State_jump [] [] 3 k (qwe b (0 : Int) (nI (List.length (D.ints (nth r0 0)))) (0 : Int) a1z a1 a2z a2 a3z a3 a4z a4 a0 (D.nil (nth r0 0)) (D.ints (nth r0 0))) := by kernel_rfl
theorem qo4 (k n : Nat) (fu : List (Nat × Nat)) (x0 x1 x2 x3 : Int) (z4 : Bool) (l5 : List (Int × Int × Int)) (z6 : Bool) (l7 : List Int) (z8 : Bool) (l9 : List Int) (z10 : Bool) (l11 : List Int) (x12 : Int) (z13 : Bool) (l14 : List Int) : lp k impl_State_jump [] fu 3 (n + 1) (qwe x0 x1 x2 x3 z4 l5 z6 l7 z8 l9 z10 l11 x12 z13 l14) =
 cond (decide (x3 < x2))
 (cond (decide ((0 : Int) ≤ x3) && decide (x3 < nI (List.length l14)))
 ((go k impl_State_surface [(.agg [(.int .i64 (x12)), (.arr false (z4) (.r3 (l5))), (.arr false (z6) (.ints .i64 (l7))), (.arr false (z8) (.ints .i64 (l9))), (.arr false (z10) (.ints .i64 (l11)))]), (.int .i64 (x0))]).bind fun r0 =>
 (go k impl_State_surface [(.agg [(.int .i64 (x12)), (.arr false (z4) (.r3 (l5))), (.arr false (z6) (.ints .i64 (l7))), (.arr false (z8) (.ints .i64 (l9))), (.arr false (z10) (.ints .i64 (l11)))]), (.int .i64 (List.getD l14 (Int.toNat x3) (0 : Int)))]).bind fun r1 =>
 (go k impl_absolute [(.int .i64 (IntKind.wrap .i64 (D.toInt (nth r0 0) - D.toInt (nth r1 0))))]).bind fun r2 =>
 lp k impl_State_jump [] fu 3 n (qwe x0 (if D.toInt (nth r2 0) > x1 then D.toInt (nth r2 0) else x1) x2 (IntKind.wrap .i64 (x3 + (1 : Int))) z4 l5 z6 l7 z8 l9 z10 l11 x12 z13 l14))
 (none))
 (some [(.int .i64 (x1))]) := by kernel_rfl
def qv5 (x0 x1 : Int) (z2 : Bool) (l3 : List (Int × Int × Int)) (x4 : Int) (z5 : Bool) (l6 : List Int) (z7 : Bool) (l8 : List Int) : St := ⟨fill 28 [(2, (.ptr 1 (0) (0))), (5, (.sl 2 none)), (13, (.sl 3 none)), (14, (.int .i64 (x0))), (15, (.int .i64 (x1)))], [], [(.arr false (z2) (.r3 (l3))), (.box true [(.int .i64 (x4)), (.sl 0 none)]), (.arr true (z5) (.ints .i64 (l6))), (.arr true (z7) (.ints .i64 (l8)))]⟩
theorem qiz (k : Nat) (a0 : Int) (a1z : Bool) (a1 : List (Int × Int × Int)) (b : Int) : go (k + 1) impl_Mesh_neighbours [(.agg [(.int .i64 (a0)), (.arr false (a1z) (.r3 (a1)))]), (.int .i64 (b))] =
 lp k impl_Mesh_neighbours [] [] 3 k (qv5 (nI (List.length [IntKind.wrap .i64 (b - (1 : Int)), IntKind.wrap .i64 (b + (1 : Int))])) (0 : Int) a1z a1 a0 false ([]) false ([IntKind.wrap .i64 (b - (1 : Int)), IntKind.wrap .i64 (b + (1 : Int))])) := by kernel_rfl
theorem qov (k n : Nat) (fu : List (Nat × Nat)) (x0 x1 : Int) (z2 : Bool) (l3 : List (Int × Int × Int)) (x4 : Int) (z5 : Bool) (l6 : List Int) (z7 : Bool) (l8 : List Int) : lp k impl_Mesh_neighbours [] fu 3 (n + 1) (qv5 x0 x1 z2 l3 x4 z5 l6 z7 l8) =
 cond (decide (x1 < x0))
 (cond (decide ((0 : Int) ≤ x1) && decide (x1 < nI (List.length l8)))
 ((go k impl_Mesh_has [(.agg [(.int .i64 (x4)), (.arr false (z2) (.r3 (l3)))]), (.int .i64 (List.getD l8 (Int.toNat x1) (0 : Int)))]).bind fun r0 =>
 cond (bit (nth r0 0))
 (cond (decide (List.length (l6 ++ [List.getD l8 (Int.toNat x1) (0 : Int)]) ≤ bigLen))
 (lp k impl_Mesh_neighbours [] fu 3 n (qv5 x0 (IntKind.wrap .i64 (x1 + (1 : Int))) z2 l3 x4 (z5 && decide (List.length (l6 ++ [List.getD l8 (Int.toNat x1) (0 : Int)]) = 0)) (l6 ++ [List.getD l8 (Int.toNat x1) (0 : Int)]) z7 l8))
 (none))
 (lp k impl_Mesh_neighbours [] fu 3 n (qv5 x0 (IntKind.wrap .i64 (x1 + (1 : Int))) z2 l3 x4 z5 l6 z7 l8)))
 (none))
 (some [(.arr true (z5) (.ints .i64 (l6)))]) := by kernel_rfl
def qwn (x0 x1 x2 x3 : Int) (z4 : Bool) (l5 : List (Int × Int × Int)) (z6 : Bool) (l7 : List Int) (z8 : Bool) (l9 : List Int) (z10 : Bool) (l11 : List Int) (x12 : Int) (z13 : Bool) (l14 : List Int) : St := ⟨fill 52 [(1, (.int .i64 (x0))), (2, (.int .i64 (x1))), (3, (.ptr 4 (0) (0))), (7, (.sl 5 none)), (18, (.sl 0 none)), (19, (.int .i64 (x2))), (20, (.int .i64 (x3)))], [], [(.arr false (z4) (.r3 (l5))), (.arr false (z6) (.ints .i64 (l7))), (.arr false (z8) (.ints .i64 (l9))), (.arr false (z10) (.ints .i64 (l11))), (.box true [(.int .i64 (x12)), (.sl 0 none), (.sl 1 none), (.sl 2 none), (.sl 3 none)]), (.arr true (z13) (.ints .i64 (l14)))]⟩
theorem qj3 (k : Nat) (a0 : Int) (a1z : Bool) (a1 : List (Int × Int × Int)) (a2z : Bool) (a2 : List Int) (a3z : Bool) (a3 : List Int) (a4z : Bool) (a4 : List Int) (b c : Int) : go (k + 1) impl_Wishes [(.agg [(.int .i64 (a0)), (.arr false (a1z) (.r3 (a1))), (.arr false (a2z) (.ints .i64 (a2))), (.arr false (a3z) (.ints .i64 (a3))), (.arr false (a4z) (.ints .i64 (a4)))]), (.int .i64 (b)), (.int .i64 (c))] =
 (go k impl_StateOk [(.agg [(.int .i64 (a0)), (.arr false (a1z) (.r3 (a1))), (.arr false (a2z) (.ints .i64 (a2))), (.arr false (a3z) (.ints .i64 (a3))), (.arr false (a4z) (.ints .i64 (a4)))])]).bind fun r0 =>
 cond (!bit (nth r0 0))
 (some [(.arr true (true) (.ints .i64 ([])))])
 (lp k impl_Wishes [] [] 5 k (qwn b c (nI (List.length a1)) (0 : Int) a1z a1 a2z a2 a3z a3 a4z a4 a0 false ([]))) := by kernel_rfl
theorem qpd (k n : Nat) (fu : List (Nat × Nat)) (x0 x1 x2 x3 : Int) (z4 : Bool) (l5 : List (Int × Int × Int)) (z6 : Bool) (l7 : List Int) (z8 : Bool) (l9 : List Int) (z10 : Bool) (l11 : List Int) (x12 : Int) (z13 : Bool) (l14 : List Int) : lp k impl_Wishes [] fu 5 (n + 1) (qwn x0 x1 x2 x3 z4 l5 z6 l7 z8 l9 z10 l11 x12 z13 l14) =
 cond (decide (x3 < x2))
 (cond (decide ((0 : Int) ≤ x3) && decide (x3 < nI (List.length l5)))
 ((go k impl_State_jump [(.agg [(.int .i64 (x12)), (.arr false (z4) (.r3 (l5))), (.arr false (z6) (.ints .i64 (l7))), (.arr false (z8) (.ints .i64 (l9))), (.arr false (z10) (.ints .i64 (l11)))]), (.int .i64 (x3))]).bind fun r0 =>
 cond (decide (x0 < D.toInt (nth r0 0)))
 (cond (decide (Prod.fst (Prod.snd (List.getD l5 (Int.toNat x3) zz3)) < (4 : Int)))
 (cond (decide (List.length (l14 ++ [(1 : Int)]) ≤ bigLen))
 (lp k impl_Wishes [] fu 5 n (qwn x0 x1 x2 (IntKind.wrap .i64 (x3 + (1 : Int))) z4 l5 z6 l7 z8 l9 z10 l11 x12 (z13 && decide (List.length (l14 ++ [(1 : Int)]) = 0)) (l14 ++ [(1 : Int)])))
 (none))
 (cond (decide (D.toInt (nth r0 0) < x1))
 (cond (decide ((0 : Int) < Prod.fst (Prod.snd (List.getD l5 (Int.toNat x3) zz3))))
 (cond (decide (List.length (l14 ++ [(-1 : Int)]) ≤ bigLen))
 (lp k impl_Wishes [] fu 5 n (qwn x0 x1 x2 (IntKind.wrap .i64 (x3 + (1 : Int))) z4 l5 z6 l7 z8 l9 z10 l11 x12 (z13 && decide (List.length (l14 ++ [(-1 : Int)]) = 0)) (l14 ++ [(-1 : Int)])))
 (none))
 (cond (decide (List.length (l14 ++ [(0 : Int)]) ≤ bigLen))
 (lp k impl_Wishes [] fu 5 n (qwn x0 x1 x2 (IntKind.wrap .i64 (x3 + (1 : Int))) z4 l5 z6 l7 z8 l9 z10 l11 x12 (z13 && decide (List.length (l14 ++ [(0 : Int)]) = 0)) (l14 ++ [(0 : Int)])))
 (none)))
 (cond (decide (List.length (l14 ++ [(0 : Int)]) ≤ bigLen))
 (lp k impl_Wishes [] fu 5 n (qwn x0 x1 x2 (IntKind.wrap .i64 (x3 + (1 : Int))) z4 l5 z6 l7 z8 l9 z10 l11 x12 (z13 && decide (List.length (l14 ++ [(0 : Int)]) = 0)) (l14 ++ [(0 : Int)])))
 (none))))
 (cond (decide (D.toInt (nth r0 0) < x1))
 (cond (decide ((0 : Int) < Prod.fst (Prod.snd (List.getD l5 (Int.toNat x3) zz3))))
 (cond (decide (List.length (l14 ++ [(-1 : Int)]) ≤ bigLen))
 (lp k impl_Wishes [] fu 5 n (qwn x0 x1 x2 (IntKind.wrap .i64 (x3 + (1 : Int))) z4 l5 z6 l7 z8 l9 z10 l11 x12 (z13 && decide (List.length (l14 ++ [(-1 : Int)]) = 0)) (l14 ++ [(-1 : Int)])))
 (none))
 (cond (decide (List.length (l14 ++ [(0 : Int)]) ≤ bigLen))
 (lp k impl_Wishes [] fu 5 n (qwn x0 x1 x2 (IntKind.wrap .i64 (x3 + (1 : Int))) z4 l5 z6 l7 z8 l9 z10 l11 x12 (z13 && decide (List.length (l14 ++ [(0 : Int)]) = 0)) (l14 ++ [(0 : Int)])))
 (none)))
 (cond (decide (List.length (l14 ++ [(0 : Int)]) ≤ bigLen))
 (lp k impl_Wishes [] fu 5 n (qwn x0 x1 x2 (IntKind.wrap .i64 (x3 + (1 : Int))) z4 l5 z6 l7 z8 l9 z10 l11 x12 (z13 && decide (List.length (l14 ++ [(0 : Int)]) = 0)) (l14 ++ [(0 : Int)])))
 (none))))
 (none))
 (some [(.arr true (z13) (.ints .i64 (l14)))]) := by kernel_rfl
end Go.Proofs.YtoldpdhhfmlckaaGreat
end
section
namespace Go.Proofs.YtoldpdhhfmlckaaGreat
open Go.Ev
abbrev S3 := List Cell × List Int × List Int
structure StU (r : Int) (s : S3) (b : List Int) : Prop where
  mesh : qtl r 0 s.1 = true
  ml : s.2.1.length = s.1.length
  tl : s.2.2.length = s.1.length
  bl : (b.length : Int) = r
  mt : qtb s.2.1 s.2.2 = true
  bed : qa6 b = true
  sum : isum s.2.1 ≤ 10000000
theorem StF.toU {r : Int} {l : List Cell} {m t b : List Int} (F : StF r l m t b) : StU r (l, m, t) b := ⟨F.mesh, F.ml, F.tl, F.bl, F.mt, F.bed, F.sum⟩
theorem StU.toF {r : Int} {s : S3} {b : List Int} (U : StU r s b) (h : unb s.1 < 0) : StF r s.1 s.2.1 s.2.2 b := ⟨U.mesh, h, U.ml, U.tl, U.bl, U.mt, U.bed, U.sum⟩
theorem StU.len {r : Int} {s : S3} {b : List Int} (U : StU r s b) : 1 ≤ s.1.length ∧ s.1.length ≤ 128 := qtr U.mesh
theorem StU.rr {r : Int} {s : S3} {b : List Int} (U : StU r s b) : 1 ≤ r ∧ r ≤ 8 := ⟨(qtq _ _ _ U.mesh).1, (qtq _ _ _ U.mesh).2.1⟩
theorem StU.at {r : Int} {s : S3} {b : List Int} (U : StU r s b) (i : Nat) : 0 ≤ s.2.1.getD i 0 ∧ s.2.1.getD i 0 ≤ 10000000 ∧ 0 ≤ s.2.2.getD i 0 ∧ s.2.2.getD i 0 ≤ 1000 * s.2.1.getD i 0 := qtc _ _ (by rw [U.ml, U.tl]) U.mt i
theorem StU.id {r : Int} {s : S3} {b : List Int} (U : StU r s b) {i : Nat} (h : i < s.1.length) : idOk (s.1.getD i zz3).1 (s.1.getD i zz3).2.1 (s.1.getD i zz3).2.2 = true := ((qtq _ _ _ U.mesh).2.2.2.1 _ h).2.2
theorem qq9 : ∀ (n : Nat) (m t : List Int), qtb m t = true → qtb (m.take n) (t.take n) = true
  | 0, m, t, h => by simp [qtb]
  | n + 1, [], t, h => by simp [qtb]
  | n + 1, x :: m, [], h => by simp [qtb]
  | n + 1, x :: m, y :: t, h => by
    simp only [List.take_succ_cons, qtb, Bool.and_eq_true] at h ⊢
    exact ⟨h.1, h.2.1, qq9 n m t h.2.2⟩
theorem qq8 : ∀ (n : Nat) (m t : List Int), qtb m t = true → qtb (m.drop n) (t.drop n) = true
  | 0, m, t, h => by simpa using h
  | n + 1, [], t, h => by simp [qtb]
  | n + 1, x :: m, [], h => by cases h' : List.drop n m <;> simp [qtb, h']
  | n + 1, x :: m, y :: t, h => by
    simp only [List.drop_succ_cons, qtb, Bool.and_eq_true] at h ⊢
    exact qq8 n m t h.2.2
theorem qq6 : ∀ (m t m' t' : List Int), m.length = t.length → qtb m t = true → qtb m' t' = true → qtb (m ++ m') (t ++ t') = true
  | [], [], m', t', _, _, h => h
  | [], _ :: _, _, _, h, _, _ => by simp at h
  | _ :: _, [], _, _, h, _, _ => by simp at h
  | x :: m, y :: t, m', t', hl, h, h' => by
    simp only [List.cons_append, qtb, Bool.and_eq_true] at h ⊢
    exact ⟨h.1, h.2.1, qq6 m t m' t' (by simpa using hl) h.2.2 h'⟩
theorem qq7 {x y : Int} {m t : List Int} (h1 : 0 ≤ x ∧ x ≤ 10000000) (h2 : 0 ≤ y ∧ y ≤ 1000 * x) (h : qtb m t = true) : qtb (x :: m) (y :: t) = true := by
  simp only [qtb, Bool.and_eq_true, qn9]; exact ⟨h1, h2, h⟩
theorem qoe {m : List Int} {i : Nat} (h : i < m.length) : isum (m.take i) + m.getD i 0 + isum (m.drop (i + 1)) = isum m := by
  have e := qhv h 0
  have := congrArg isum e
  rw [qod, isum] at this
  omega
abbrev hA (x : Int) : Int := x - x / 2
abbrev hB (x : Int) : Int := x / 2
theorem hAB {x : Int} (h : 0 ≤ x) : hA x + hB x = x ∧ 0 ≤ hB x ∧ hB x ≤ x ∧ 0 ≤ hA x ∧ hA x ≤ x := by unfold hA hB; omega
def rfM (m : List Int) (i : Nat) : List Int := m.take i ++ hA (m.getD i 0) :: hB (m.getD i 0) :: m.drop (i + 1)
abbrev shr (t m : Int) : Int := qx7 t (hA m) m
def rfT (t m : List Int) (i : Nat) : List Int := t.take i ++ shr (t.getD i 0) (m.getD i 0) :: (t.getD i 0 - shr (t.getD i 0) (m.getD i 0)) :: t.drop (i + 1)
def rfS (s : S3) (i : Nat) : S3 := (qym s.1 i, rfM s.2.1 i, rfT s.2.2 s.2.1 i)
theorem qye {t m : Int} (hm : 0 ≤ m ∧ m ≤ 10000000) (ht : 0 ≤ t ∧ t ≤ 1000 * m) : (0 ≤ shr t m ∧ shr t m ≤ 1000 * hA m) ∧ 0 ≤ t - shr t m ∧ t - shr t m ≤ 1000 * hB m := by
  have q := hAB hm.1
  have p1 := (qx9 t (hA m) m).1
  have p2 := qya (t := t) (p := hA m) (m := m) ht.1 (by omega) ht.2
  by_cases h0 : m = 0
  · subst h0
    have : t = 0 := by omega
    subst this
    have p3 : shr 0 0 = 0 := by unfold shr; omega
    rw [p3] at *
    exact ⟨⟨by omega, by omega⟩, by omega, by omega⟩
  · have e : shr t m = (t * hA m) / m := by
      unfold shr qx7
      rw [show inR m 1 10000000 = true from qn9.2 (by omega), show inR (hA m) 0 m = true from qn9.2 (by omega), show inR t 0 (1000 * m) = true from qn9.2 ht]
      simp only [Bool.and_self, qhl]
      exact Int.tdiv_eq_ediv_of_nonneg (Int.mul_nonneg ht.1 (by omega))
    refine ⟨⟨p1, p2⟩, ?_, ?_⟩
    · have : (t * hA m) / m ≤ t := by
        apply Int.ediv_le_of_le_mul (by omega)
        exact Int.mul_le_mul_of_nonneg_left (by omega) ht.1
      omega
    · have hx : t * hB m ≤ 1000 * m * hB m := Int.mul_le_mul_of_nonneg_right ht.2 (by omega)
      have hs : t * hA m + t * hB m = t * m := by rw [← Int.mul_add, q.1]
      have h2 : (t - 1000 * hB m) * m ≤ t * hA m := by
        rw [Int.sub_mul, Int.mul_right_comm 1000 (hB m) m]
        rw [show 1000 * m * hB m = 1000 * m * hB m from rfl] at hx
        omega
      have : t - 1000 * hB m ≤ (t * hA m) / m := (Int.le_ediv_iff_mul_le (by omega)).2 h2
      omega
theorem qvk {m : List Int} {i : Nat} (h : i < m.length) : (rfM m i).length = m.length + 1 := by
  simp only [rfM, List.length_append, List.length_take, List.length_cons, List.length_drop]; omega
theorem qvm {t m : List Int} {i : Nat} (h : i < t.length) : (rfT t m i).length = t.length + 1 := by
  simp only [rfT, List.length_append, List.length_take, List.length_cons, List.length_drop]; omega
theorem qvl {m : List Int} {i : Nat} (h : i < m.length) (h0 : 0 ≤ m.getD i 0) : isum (rfM m i) = isum m := by
  have := qoe h; have := hAB h0
  simp only [rfM, qod, isum]
  omega
theorem qvn {t m : List Int} {i : Nat} (h : i < t.length) : isum (rfT t m i) = isum t := by
  have := qoe h
  simp only [rfT, qod, isum]
  omega
theorem rf_U {r : Int} {s : S3} {b : List Int} (U : StU r s b) {i : Nat} (hi : i < s.1.length) (hl : qqx s.1 i < 4) : StU r (rfS s i) b := by
  have a := U.at i; have ml := U.ml; have tl := U.tl; have q := hAB a.1
  have sh := qye ⟨a.1, a.2.1⟩ ⟨a.2.2.1, a.2.2.2⟩
  refine ⟨qyp U.mesh hi hl, ?_, ?_, U.bl, ?_, U.bed, ?_⟩
  · show (rfM s.2.1 i).length = (qym s.1 i).length
    rw [qvk (by omega), qyn hi]; omega
  · show (rfT s.2.2 s.2.1 i).length = (qym s.1 i).length
    rw [qvm (by omega), qyn hi]; omega
  · exact qq6 _ _ _ _ (by rw [List.length_take, List.length_take]; omega) (qq9 i _ _ U.mt) (qq7 (by omega) sh.1 (qq7 (by omega) sh.2 (qq8 _ _ _ U.mt)))
  · show isum (rfM s.2.1 i) ≤ _
    rw [qvl (by omega) a.1]; exact U.sum
def cmM (m : List Int) (i : Nat) : List Int := m.take i ++ (m.getD i 0 + m.getD (i + 1) 0) :: m.drop (i + 2)
def cmS (s : S3) (i : Nat) : S3 := (qth s.1 i, cmM s.2.1 i, cmM s.2.2 i)
theorem qhe {m : List Int} {i : Nat} (h : i + 1 < m.length) : (cmM m i).length + 1 = m.length := by
  simp only [cmM, List.length_append, List.length_take, List.length_cons, List.length_drop]; omega
theorem qof {m : List Int} {i : Nat} (h : i + 1 < m.length) : isum (m.take i) + m.getD i 0 + m.getD (i + 1) 0 + isum (m.drop (i + 2)) = isum m := by
  have e := qoe (show i < m.length by omega)
  rw [qh2 h 0, isum, show i + 1 + 1 = i + 2 from rfl] at e
  omega
theorem qhf {m : List Int} {i : Nat} (h : i + 1 < m.length) : isum (cmM m i) = isum m := by
  have := qof h
  simp only [cmM, qod, isum]
  omega
theorem qoi {m : List Int} (h : ∀ x ∈ m, 0 ≤ x) : 0 ≤ isum m := by
  induction m with
  | nil => simp [isum]
  | cons x m ih => have := h x (by simp); have := ih fun y hy => h y (by simp [hy]); simp only [isum]; omega
theorem cm_U {r : Int} {s : S3} {b : List Int} (U : StU r s b) {i : Nat} (hi : i + 1 < s.1.length) (hs : sib (s.1.getD i zz3) (s.1.getD (i + 1) zz3) = true) : StU r (cmS s i) b := by
  have a := U.at i; have a' := U.at (i + 1); have ml := U.ml; have tl := U.tl
  have mem := qtd _ _ (by rw [ml, tl]) U.mt
  have s1 := qoi (m := s.2.1.take i) fun x hx => (mem.1 x (List.mem_of_mem_take hx)).1
  have s2 := qoi (m := s.2.1.drop (i + 2)) fun x hx => (mem.1 x (List.mem_of_mem_drop hx)).1
  have s3 := qof (m := s.2.1) (i := i) (by omega)
  have s4 := U.sum
  refine ⟨qtj U.mesh hi hs, ?_, ?_, U.bl, ?_, U.bed, ?_⟩
  · show (cmM s.2.1 i).length = (qth s.1 i).length
    have h1 := qhe (m := s.2.1) (i := i) (by omega); have h2 := qti hi; omega
  · show (cmM s.2.2 i).length = (qth s.1 i).length
    have h1 := qhe (m := s.2.2) (i := i) (by omega); have h2 := qti hi; omega
  · exact qq6 _ _ _ _ (by rw [List.length_take, List.length_take]; omega) (qq9 i _ _ U.mt) (qq7 (by omega) (by omega) (qq8 _ _ _ U.mt))
  · show isum (cmM s.2.1 i) ≤ _
    rw [qhf (by omega)]; exact U.sum
def lvS : Nat → S3 → S3
  | 0, s => s
  | n + 1, s => if unb s.1 < 0 then s else lvS n (rfS s (qhg s.1 (unb s.1).toNat))
theorem qq4 {r : Int} {b : List Int} : ∀ (n : Nat) (s : S3), StU r s b → 129 ≤ n + s.1.length → StU r (lvS n s) b ∧ unb (lvS n s).1 < 0
  | 0, s, U, hn => by have := U.len; omega
  | n + 1, s, U, hn => by
    unfold lvS
    by_cases g : unb s.1 < 0
    · rw [if_pos g]; exact ⟨U, g⟩
    · rw [if_neg g]
      obtain ⟨j, e, h1, h2⟩ := qz1 (by omega : 0 ≤ unb s.1)
      have c := qhh U.mesh h1 h2
      rw [e, Int.toNat_natCast]
      exact qq4 n _ (rf_U U c.1 c.2) (by show 129 ≤ n + (qym s.1 _).length; rw [qyn c.1]; omega)
def spS (w : List Int) : Nat → S3 → S3
  | 0, s => s
  | n + 1, s => spS w n (if w.getD n 0 = 1 then rfS s n else s)
def mayC (l : List Cell) (i : Nat) : Bool := sib (l.getD i zz3) (l.getD (i + 1) zz3) && ((decide (i = 0) || decide (qqx l (i - 1) ≤ qqx l i)) && (decide (l.length ≤ i + 2) || decide (qqx l (i + 2) ≤ qqx l i)))
def mgS (P : Cell → Bool) : Nat → Nat → S3 → S3
  | 0, i, s => s
  | n + 1, i, s => if i + 1 < s.1.length then mgS P n (i + 1) (if (P (s.1.getD i zz3) && (P (s.1.getD (i + 1) zz3) && mayC s.1 i)) = true then cmS s i else s) else s
theorem qyo {l : List Cell} {i j : Nat} (hi : i < l.length) (h : j < i) : (qym l i).getD j zz3 = l.getD j zz3 := by
  unfold qym
  simp only [List.getD_eq_getElem?_getD]
  rw [List.getElem?_append_left (by rw [List.length_take]; omega), List.getElem?_take, if_pos h]
theorem qyk {r : Int} {b : List Int} (w : List Int) (l0 : List Cell) (hw : ∀ j, w.getD j 0 = 1 → qqx l0 j < 4) : ∀ (n : Nat) (s : S3), StU r s b → n ≤ s.1.length → (∀ j, j < n → s.1.getD j zz3 = l0.getD j zz3) → StU r (spS w n s) b
  | 0, s, U, hn, he => U
  | n + 1, s, U, hn, he => by
    unfold spS
    by_cases g : w.getD n 0 = 1
    · rw [if_pos g]
      have hl : qqx s.1 n < 4 := by have := hw n g; unfold qqx at *; rw [he n (by omega)]; exact this
      exact qyk w l0 hw n _ (rf_U U (by omega) hl) (by show n ≤ (qym s.1 n).length; rw [qyn (by omega)]; omega) fun j hj => by
        show (qym s.1 n).getD j zz3 = _
        rw [qyo (by omega) hj]; exact he j (by omega)
    · rw [if_neg g]
      exact qyk w l0 hw n s U (by omega) fun j hj => he j (by omega)
theorem qtu {r : Int} {b : List Int} (P : Cell → Bool) : ∀ (n i : Nat) (s : S3), StU r s b → StU r (mgS P n i s) b
  | 0, i, s, U => U
  | n + 1, i, s, U => by
    unfold mgS
    by_cases g : i + 1 < s.1.length
    · rw [if_pos g]
      by_cases h : (P (s.1.getD i zz3) && (P (s.1.getD (i + 1) zz3) && mayC s.1 i)) = true
      · rw [if_pos h]
        simp only [Bool.and_eq_true, mayC] at h
        exact qtu P n (i + 1) _ (cm_U U g h.2.2.1)
      · rw [if_neg h]; exact qtu P n (i + 1) s U
    · rw [if_neg g]; exact U
theorem qtk {l : List Cell} {i : Nat} (hi : i + 1 < l.length) (hu : unb l < 0) (hm : mayC l i = true) (h1 : 1 ≤ qqx l i) : unb (qth l i) < 0 := by
  have ml := qti hi
  simp only [mayC, Bool.and_eq_true, Bool.or_eq_true, decide_eq_true_eq, sib] at hm
  obtain ⟨⟨_, _, _, hlev, _⟩, hlo, hhi⟩ := hm
  rw [qz2] at hu ⊢
  have lv : ∀ j, qqx (qth l i) j = if j < i then qqx l j else if j = i then qqx l i - 1 else qqx l (j + 1) := fun j => by
    unfold qth qqx
    simp only [List.getD_eq_getElem?_getD]
    by_cases g : j < i
    · rw [if_pos g, List.getElem?_append_left (by rw [List.length_take]; omega), List.getElem?_take, if_pos g]
    · rw [if_neg g, List.getElem?_append_right (by rw [List.length_take]; omega), List.length_take, Nat.min_eq_left (by omega)]
      by_cases g2 : j = i
      · subst g2; rw [if_pos rfl, Nat.sub_self]; simp [par]
      · rw [if_neg g2, show j - i = (j - i - 1) + 1 by omega, List.getElem?_cons_succ, List.getElem?_drop]
        congr 4; omega
  intro j hj
  have hj' : j + 1 < l.length - 1 := by omega
  rw [lv, lv]
  have hu1 := fun q (hq : q + 1 < l.length) => hu q hq
  have hle : qqx l i = qqx l (i + 1) := hlev
  by_cases g : j + 1 < i
  · rw [if_pos (by omega), if_pos g]; exact hu j (by omega)
  by_cases g1 : j + 1 = i
  · rw [if_pos (by omega), if_neg (by omega), if_pos g1]
    have := hu j (by omega)
    rw [g1] at this
    rcases hlo with h | h
    · omega
    · rw [show i - 1 = j by omega] at h; omega
  by_cases g2 : j = i
  · subst g2
    rw [if_neg (by omega), if_pos rfl, if_neg (by omega), if_neg (by omega)]
    have := hu (j + 1) (by omega)
    rcases hhi with h | h
    · omega
    · rw [show j + 1 + 1 = j + 2 by omega] at *; omega
  · rw [if_neg (by omega), if_neg (by omega), if_neg (by omega), if_neg (by omega)]; exact hu (j + 1) (by omega)
theorem qyf {a b : Cell} (h : sib a b = true) : 1 ≤ a.2.1 := by
  simp only [sib, Bool.and_eq_true, decide_eq_true_eq] at h
  obtain ⟨h1, h2, h3, h4, h5, h6⟩ := h
  rw [← h3, ← h4, h6] at h2
  exact (qui h1 h2 h5).1
theorem qtw (P : Cell → Bool) : ∀ (n i : Nat) (s : S3), unb s.1 < 0 → unb (mgS P n i s).1 < 0
  | 0, i, s, U => U
  | n + 1, i, s, U => by
    unfold mgS
    by_cases g : i + 1 < s.1.length
    · rw [if_pos g]
      by_cases h : (P (s.1.getD i zz3) && (P (s.1.getD (i + 1) zz3) && mayC s.1 i)) = true
      · rw [if_pos h]
        simp only [Bool.and_eq_true] at h
        have h2 := h.2.2
        simp only [mayC, Bool.and_eq_true] at h2
        exact qtw P n (i + 1) _ (qtk g U h.2.2 (qyf h2.1))
      · rw [if_neg h]; exact qtw P n (i + 1) s U
    · rw [if_neg g]; exact U
end Go.Proofs.YtoldpdhhfmlckaaGreat
end
section
namespace Go.Proofs.YtoldpdhhfmlckaaGreat
open Go.Ev
set_option maxRecDepth 20000
theorem qzx (o : Bool) (d0 d1 d2 d3 : D) (l : List D) : (D.ptr o (d0 :: d1 :: d2 :: d3 :: l)).cell 3 = d3 := Eq.trans rfl rfl
theorem qzy (o : Bool) (d0 d1 d2 d3 d4 : D) (l : List D) : (D.ptr o (d0 :: d1 :: d2 :: d3 :: d4 :: l)).cell 4 = d4 := Eq.trans rfl rfl
theorem qci (k : Nat) (hk : 2000000 ≤ k) (a : Int) (h : 0 ≤ a) (h' : a ≤ 1000000000) : go (k + 1) impl_SplitEven [(.int .i64 (a))] = some [.int .i64 (hA a), .int .i64 (hB a)] := by
  rw [qjc]
  have e : Int.tdiv a 2 = a / 2 := Int.tdiv_eq_ediv_of_nonneg h
  rw [e]
  simp (disch := omega) only [dF, q0l, qhj]
theorem qb8 (k : Nat) (hk : 2000000 ≤ k) (r : Int) (l : List Cell) (h : qtl r 0 l = true) (i : Nat) (hi : i < l.length) (hv : qqx l i < 4) :
    go (k + 2) impl_Mesh_refine [.ptr true [.int .i64 r, .arr true false (.r3 l)], .int .i64 (i : Int)] = some [.ptr true [.int .i64 r, .arr true false (.r3 (qym l i))]] := by
  rw [qi0]
  have L := qtr h
  have id := qn6.1 ((qtq _ _ _ h).2.2.2.1 _ hi).2.2
  have hp : pow2 (l.getD i zz3).2.1 ≤ 16 := by
    rcases lev (qn9.2 id.2.1) with e | e | e | e | e <;> rw [e] <;> decide
  have eR := qd7 k false false l [ch0 (l.getD i zz3), ch1 (l.getD i zz3)] (i : Int) ((i + 1 : Nat) : Int) (by omega) (by omega) (by omega) (by simp) (by simp <;> omega) (by omega) (by simp)
  rw [Int.toNat_natCast, Int.toNat_natCast] at eR
  simp only [qqx] at hv
  simp (disch := omega) only [dT, nI, Bool.and_true, Int.toNat_natCast, qj7, q0l, Int.add_zero, qgp, qa9, nth0, qgr, qzu, qgs, qg3, eR, qt3, quv, qhl]
  rw [List.append_assoc]; rfl
theorem qdo (k : Nat) (hk : 2000000 ≤ k) (r : Int) (s : S3) (b : List Int) (U : StU r s b) (i : Nat) (hi : i < s.1.length) (hv : qqx s.1 i < 4) :
    go (k + 3) impl_State_refine [.ptr true [.int .i64 (r), .arr true (false) (.r3 (s.1)), .arr true (false) (.ints .i64 (s.2.1)), .arr true (false) (.ints .i64 (s.2.2)), .arr true (false) (.ints .i64 (b))], .int .i64 (i : Int)] = some [.ptr true [.int .i64 (r), .arr true (false) (.r3 ((rfS s i).1)), .arr true (false) (.ints .i64 ((rfS s i).2.1)), .arr true (false) (.ints .i64 ((rfS s i).2.2)), .arr true (false) (.ints .i64 (b))]] := by
  obtain ⟨l, m, t⟩ := s
  simp only at hi hv ⊢
  rw [qjt]
  have L := U.len; have ml : m.length = l.length := U.ml; have tl : t.length = l.length := U.tl; have bl := U.bl; have rr := U.rr
  have a : 0 ≤ m.getD i 0 ∧ m.getD i 0 ≤ 10000000 ∧ 0 ≤ t.getD i 0 ∧ t.getD i 0 ≤ 1000 * m.getD i 0 := U.at i
  simp only at L
  have q := hAB a.1
  have sh := qye ⟨a.1, a.2.1⟩ ⟨a.2.2.1, a.2.2.2⟩
  simp only [shr] at sh
  have eM := qb8 k (by omega) r l U.mesh i hi hv
  have e1 := qd8 (k + 1) false false m [hA (m.getD i 0), hB (m.getD i 0)] (i : Int) ((i + 1 : Nat) : Int) (by omega) (by omega) (by omega) (by simp) (by simp <;> omega) (by omega) (by simp)
  have e2 := qd8 (k + 1) false false t [qx7 (t.getD i 0) (hA (m.getD i 0)) (m.getD i 0), t.getD i 0 - qx7 (t.getD i 0) (hA (m.getD i 0)) (m.getD i 0)] (i : Int) ((i + 1 : Nat) : Int) (by omega) (by omega) (by omega) (by simp) (by simp <;> omega) (by omega) (by simp)
  rw [Int.toNat_natCast, Int.toNat_natCast] at e1 e2
  simp (disch := omega) only [dT, nI, Bool.and_true, Int.toNat_natCast, qci, qch, eM, qgp, q0l, qhl, qa9, nth0, qus, qzu, qut, qt3, quv, nth1, e1, e2, qob]
  rw [List.append_assoc, List.append_assoc]
  rfl
theorem qbi {a : Cell} (hid : idOk a.1 a.2.1 a.2.2 = true) (hv : 1 ≤ a.2.1) : (∀ (k : Nat), 2000000 ≤ k → go (k + 3) spec_ParentOf [.agg [.int .i64 a.1, .int .i64 a.2.1, .int .i64 a.2.2]] = some [.agg [.int .i64 (par a).1, .int .i64 (par a).2.1, .int .i64 (par a).2.2], .bool true]) ∧
    (∀ (k : Nat), 2000000 ≤ k → go (k + 4) impl_ParentOf [.agg [.int .i64 a.1, .int .i64 a.2.1, .int .i64 a.2.2]] = some [.agg [.int .i64 (par a).1, .int .i64 (par a).2.1, .int .i64 (par a).2.2], .bool true]) := by
  have id := qn6.1 hid
  have hp : pow2 a.2.1 ≤ 16 := by
    rcases lev (qn9.2 id.2.1) with e | e | e | e | e <;> rw [e] <;> decide
  have e : Int.tdiv a.2.2 2 = a.2.2 / 2 := Int.tdiv_eq_ediv_of_nonneg id.2.2.1
  refine ⟨fun k hk => ?_, fun k hk => ?_⟩
  · rw [qln]; simp (disch := omega) only [qeo, hid, bit, dF, q0l, e, qhj, qa9, nth0, qzt, Bool.not_true]
  · rw [qi3]; simp (disch := omega) only [qbz, hid, bit, dF, q0l, e, qhj, qa9, nth0, qzt, Bool.not_true]
theorem qb7 (k : Nat) (hk : 2000000 ≤ k) (r : Int) (l : List Cell) (h : qtl r 0 l = true) (i : Nat) (hi : i + 1 < l.length) (hv : 1 ≤ qqx l i) :
    go (k + 5) impl_Mesh_coarsen [.ptr true [.int .i64 r, .arr true false (.r3 l)], .int .i64 (i : Int)] = some [.ptr true [.int .i64 r, .arr true false (.r3 (qth l i))]] := by
  rw [qiv]
  have L := qtr h
  have eP := (qbi ((qtq _ _ _ h).2.2.2.1 _ (show i < l.length by omega)).2.2 hv).2 k (by omega)
  have eR := qd7 (k + 3) false false l [par (l.getD i zz3)] (i : Int) ((i + 2 : Nat) : Int) (by omega) (by omega) (by omega) (by simp) (by simp <;> omega) (by omega) (by simp)
  rw [Int.toNat_natCast, Int.toNat_natCast] at eR
  simp (disch := omega) only [dT, nI, Bool.and_true, Int.toNat_natCast, eP, qgq, q0l, qa9, nth0, qgr, qzu, qgs, qg3, eR, qt3, quv, qhl]
  rw [List.append_assoc]; rfl
theorem qcy (k : Nat) (hk : 2000000 ≤ k) (r : Int) (s : S3) (b : List Int) (U : StU r s b) (i : Nat) (hi : i + 1 < s.1.length) (hv : 1 ≤ qqx s.1 i) :
    go (k + 6) impl_State_coarsen [.ptr true [.int .i64 (r), .arr true (false) (.r3 (s.1)), .arr true (false) (.ints .i64 (s.2.1)), .arr true (false) (.ints .i64 (s.2.2)), .arr true (false) (.ints .i64 (b))], .int .i64 (i : Int)] = some [.ptr true [.int .i64 (r), .arr true (false) (.r3 ((cmS s i).1)), .arr true (false) (.ints .i64 ((cmS s i).2.1)), .arr true (false) (.ints .i64 ((cmS s i).2.2)), .arr true (false) (.ints .i64 (b))]] := by
  obtain ⟨l, m, t⟩ := s
  simp only at hi hv ⊢
  rw [qji]
  have L := U.len; have ml : m.length = l.length := U.ml; have tl : t.length = l.length := U.tl; have bl := U.bl; have rr := U.rr
  have a : 0 ≤ m.getD i 0 ∧ m.getD i 0 ≤ 10000000 ∧ 0 ≤ t.getD i 0 ∧ t.getD i 0 ≤ 1000 * m.getD i 0 := U.at i
  have a' : 0 ≤ m.getD (i + 1) 0 ∧ m.getD (i + 1) 0 ≤ 10000000 ∧ 0 ≤ t.getD (i + 1) 0 ∧ t.getD (i + 1) 0 ≤ 1000 * m.getD (i + 1) 0 := U.at (i + 1)
  simp only at L
  have eM := qb7 k (by omega) r l U.mesh i hi hv
  have e1 := qd8 (k + 4) false false m [m.getD i 0 + m.getD (i + 1) 0] (i : Int) ((i + 2 : Nat) : Int) (by omega) (by omega) (by omega) (by simp) (by simp <;> omega) (by omega) (by simp)
  have e2 := qd8 (k + 4) false false t [t.getD i 0 + t.getD (i + 1) 0] (i : Int) ((i + 2 : Nat) : Int) (by omega) (by omega) (by omega) (by simp) (by simp <;> omega) (by omega) (by simp)
  rw [Int.toNat_natCast, Int.toNat_natCast] at e1 e2
  simp (disch := omega) only [eM, dT, nI, Bool.and_true, qgp, q0l, qgq, Int.toNat_natCast, e1, e2, qa9, nth0, qt3, qob, qhl, qus, qzu, qut, quv]
  rw [List.append_assoc, List.append_assoc]
  rfl
end Go.Proofs.YtoldpdhhfmlckaaGreat
end
section
namespace Go.Proofs.YtoldpdhhfmlckaaGreat
open Go.Ev
set_option maxRecDepth 20000
theorem qbg {a b : Cell} (ha : idOk a.1 a.2.1 a.2.2 = true) (hb : idOk b.1 b.2.1 b.2.2 = true) : (∀ (k : Nat), 2000000 ≤ k → go (k + 3) spec_IsSibling [.agg [.int .i64 a.1, .int .i64 a.2.1, .int .i64 a.2.2], .agg [.int .i64 b.1, .int .i64 b.2.1, .int .i64 b.2.2]] = some [.bool (sib a b)]) ∧
    (∀ (k : Nat), 2000000 ≤ k → go (k + 5) impl_IsSibling [.agg [.int .i64 a.1, .int .i64 a.2.1, .int .i64 a.2.2], .agg [.int .i64 b.1, .int .i64 b.2.1, .int .i64 b.2.2]] = some [.bool (sib a b)]) := by
  have ia := qn6.1 ha; have ib := qn6.1 hb
  have pa : pow2 a.2.1 ≤ 16 := by
    rcases lev (qn9.2 ia.2.1) with e | e | e | e | e <;> rw [e] <;> decide
  have ea : Int.tmod a.2.2 2 = a.2.2 % 2 := Int.tmod_eq_emod_of_nonneg ia.2.2.1
  have da : Int.tdiv a.2.2 2 = a.2.2 / 2 := Int.tdiv_eq_ediv_of_nonneg ia.2.2.1
  have db : Int.tdiv b.2.2 2 = b.2.2 / 2 := Int.tdiv_eq_ediv_of_nonneg ib.2.2.1
  have pb : pow2 b.2.1 ≤ 16 := by
    rcases lev (qn9.2 ib.2.1) with e | e | e | e | e <;> rw [e] <;> decide
  constructor
  · intro k hk
    rw [qlh]
    simp (disch := omega) only [qeo, ha, bit, hb, ea, q0l, qa9, nth0, qzt, qhl]
    unfold sib
    rw [ha, hb]
    by_cases h1 : a.1 = b.1
    · by_cases h2 : a.2.1 = b.2.1
      · by_cases h3 : a.2.2 % 2 = 0
        · simp (disch := omega) only [dT, qhl, Bool.true_and]
        · simp (disch := omega) only [dT, dF, qhj, qhl, Bool.false_and, Bool.and_false]
      · simp (disch := omega) only [dT, dF, qhj, qhl, Bool.false_and, Bool.and_false]
    · simp (disch := omega) only [dF, qhj, Bool.false_and, Bool.and_false]
  · intro k hk
    rw [qio, qi3, qi3]
    by_cases z1 : a.2.1 = 0
    · have sf : sib a b = false := by
        rw [← Bool.not_eq_true]; intro hs; have := qyf hs; omega
      rw [sf]
      by_cases z2 : b.2.1 = 0
      · simp (disch := omega) only [qbz, ha, bit, dT, q0l, qhl, qa9, nth0, qzt, Bool.not_true, qhj, hb, Bool.and_true, nth1, qgr, qzu, qgs, qg3]
      · simp (disch := omega) only [qbz, ha, bit, dT, q0l, qhl, qa9, nth0, qzt, Bool.not_true, qhj, hb, dF, Bool.and_true, nth1, qgr, qzu, qgs, qg3]
    · by_cases z2 : b.2.1 = 0
      · have sf : sib a b = false := by
          rw [← Bool.not_eq_true]; intro hs
          simp only [sib, Bool.and_eq_true, decide_eq_true_eq] at hs
          omega
        rw [sf]
        simp (disch := omega) only [qbz, ha, bit, dF, q0l, qhj, qa9, nth0, qzt, Bool.not_true, hb, dT, qhl, Bool.and_true, nth1, qgr, qzu, qgs, qg3]
      · unfold sib
        rw [ha, hb]
        simp (disch := omega) only [qbz, ha, bit, dF, q0l, da, qhj, qa9, nth0, qzt, Bool.not_true, hb, db, Bool.and_true, ea, nth1, qgr, qzu, qgs, qg3, qhl, Bool.true_and]
        by_cases h1 : a.1 = b.1
        · by_cases h2 : a.2.1 = b.2.1
          · by_cases h3 : a.2.2 % 2 = 0
            · by_cases h5 : b.2.2 = a.2.2 + 1
              · simp (disch := omega) only [dT, Bool.and_true, qhl]
              · by_cases h6 : a.2.2 / 2 = b.2.2 / 2
                · simp (disch := omega) only [dT, Bool.and_true, dF, qhl, Bool.and_false]
                · simp (disch := omega) only [dT, dF, Bool.and_false, qhl, qhj]
            · by_cases h6 : a.2.2 / 2 = b.2.2 / 2
              · simp (disch := omega) only [dT, Bool.and_true, dF, qhj, qhl, Bool.and_false]
              · simp (disch := omega) only [dT, dF, Bool.and_false, qhj, Bool.false_and]
          · simp (disch := omega) only [dT, dF, Bool.false_and, Bool.and_false, qhj]
        · simp (disch := omega) only [dF, Bool.false_and, qhj]
theorem qdi (k : Nat) (hk : 2000000 ≤ k) (r : Int) (z : Bool) (l : List Cell) (h : qtl r 0 l = true) (i : Nat) (hi : i + 1 < l.length) :
    go (k + 6) impl_Mesh_mayCoarsen [.agg [.int .i64 r, .arr false z (.r3 l)], .int .i64 (i : Int)] = some [.bool (mayC l i)] := by
  rw [qiy]
  have L := qtr h
  have id := fun j (hj : j < l.length) => ((qtq _ _ _ h).2.2.2.1 _ hj).2.2
  have eS := (qbg (id i (by omega)) (id (i + 1) hi)).2 k (by omega)
  have b1 : inR (i : Int) 0 ((l.length : Int) - 1) = true := qn9.2 (by omega)
  have b2 : inR ((i + 1 : Nat) : Int) 0 ((l.length : Int) - 1) = true := qn9.2 (by omega)
  unfold mayC
  simp (disch := omega) only [qc8, b1, bit, qgp, q0l, b2, dT, nI, Bool.and_true, Int.toNat_natCast, eS, qgq, Bool.true_and, Bool.not_false, qa9, nth0, qzt, qhl, Bool.not_true, qhj]
  cases sib (l.getD i zz3) (l.getD (i + 1) zz3)
  · simp (disch := omega) only [Bool.not_false, qhl, Bool.false_and]
  by_cases h0 : i = 0
  · subst h0
    have b3 : inR (((0 : Nat) : Int) - 1) 0 ((l.length : Int) - 1) = false := by rw [← Bool.not_eq_true, qn9]; omega
    by_cases h1 : l.length ≤ 2
    · have b4 : inR ((0 + 2 : Nat) : Int) 0 ((l.length : Int) - 1) = false := by rw [← Bool.not_eq_true, qn9]; omega
      simp (disch := omega) only [Bool.not_true, b3, dF, b4, qhj, dTT, Bool.true_or, dT, Bool.and_true]
    · have b4 : inR ((0 + 2 : Nat) : Int) 0 ((l.length : Int) - 1) = true := qn9.2 (by omega)
      simp only [qqx]
      by_cases h3 : (l.getD (0 + 2) zz3).2.1 ≤ (l.getD 0 zz3).2.1
      · simp (disch := omega) only [Bool.not_true, b3, dF, b4, dT, Bool.not_false, qhl, qhj, dTT, Bool.true_or, Bool.or_true, Bool.and_true]
      · simp (disch := omega) only [Bool.not_true, b3, dF, b4, dT, qhl, qhj, dTT, Bool.true_or, Bool.or_false, Bool.and_false]
  · have ci : (i : Int) - 1 = ((i - 1 : Nat) : Int) := by omega
    have b3 : inR (((i - 1 : Nat) : Nat) : Int) 0 ((l.length : Int) - 1) = true := qn9.2 (by omega)
    simp only [qqx]
    by_cases h2 : (l.getD (i - 1) zz3).2.1 ≤ (l.getD i zz3).2.1
    · by_cases h1 : l.length ≤ i + 2
      · have b4 : inR ((i + 2 : Nat) : Int) 0 ((l.length : Int) - 1) = false := by rw [← Bool.not_eq_true, qn9]; omega
        simp (disch := omega) only [Bool.not_true, ci, b3, dT, Int.toNat_natCast, dF, Bool.not_false, b4, qhj, qhl, Bool.or_true, Bool.true_or, Bool.and_true]
      · have b4 : inR ((i + 2 : Nat) : Int) 0 ((l.length : Int) - 1) = true := qn9.2 (by omega)
        by_cases h3 : (l.getD (i + 2) zz3).2.1 ≤ (l.getD i zz3).2.1
        · simp (disch := omega) only [Bool.not_true, ci, b3, dT, Int.toNat_natCast, dF, Bool.not_false, b4, qhl, qhj, Bool.or_true, Bool.and_true]
        · simp (disch := omega) only [Bool.not_true, ci, b3, dT, Int.toNat_natCast, dF, Bool.not_false, b4, qhl, qhj, Bool.or_true, Bool.or_false, Bool.and_false]
    · simp (disch := omega) only [Bool.not_true, ci, b3, dT, Int.toNat_natCast, qhj, qhl, dF, Bool.or_false, Bool.false_and, Bool.and_false]
def toR (l : List Cell) : Int := if unb l < 0 then unb l else ((qhg l (unb l).toNat : Nat) : Int)
theorem qdw (k : Nat) (hk : 2000000 ≤ k) (r : Int) (z : Bool) (l : List Cell) (h : qtl r 0 l = true) : go (k + 3) impl_Mesh_toRefine [.agg [.int .i64 r, .arr false z (.r3 l)]] = some [.int .i64 (toR l)] := by
  rw [qi1]
  have L := qtr h
  have mv := qts _ _ _ h
  rw [qdx k (by omega) _ _ _ (by omega) mv]
  unfold toR
  by_cases g : unb l < 0
  · rw [if_pos g]; simp (disch := omega) only [nI, qa9, nth0, qzu, dF, dT, Bool.and_true, qhj]
  · rw [if_neg g]
    obtain ⟨j, e, h1, h2⟩ := qz1 (by omega : 0 ≤ unb l)
    rw [e, Int.toNat_natCast]
    unfold qhg
    by_cases g2 : qqx l (j + 1) < qqx l j
    · rw [if_pos g2]; simp only [qqx] at g2; simp (disch := omega) only [nI, qa9, nth0, qzu, dT, Bool.and_true, qgp, q0l, Int.toNat_natCast, qhl]
    · rw [if_neg g2]; simp only [qqx] at g2; simp (disch := omega) only [nI, qa9, nth0, qzu, dT, Bool.and_true, qgp, q0l, Int.toNat_natCast, dF, qhj, qhl]
theorem qrp (k : Nat) (hk : 2000000 ≤ k) (fu : List (Nat × Nat)) (w0 : Int) (v1 : Bool) (w1 : List Cell) (v2 : Bool) (w2 : List Int) (v3 : Bool) (w3 : List Int) (v4 : Bool) (w4 : List Int) (r : Int) (b : List Int) : ∀ (N n : Nat) (s : S3), N < n → StU r s b → 129 ≤ N + s.1.length →
    lp (k + 3) impl_State_balance [.ptr true [.int .i64 w0, .arr true v1 (.r3 w1), .arr true v2 (.ints .i64 w2), .arr true v3 (.ints .i64 w3), .arr true v4 (.ints .i64 w4)]] fu 1 n (qwb (toR s.1) false s.1 false s.2.1 false s.2.2 false b r) = some [.ptr true [.int .i64 (r), .arr true (false) (.r3 ((lvS N s).1)), .arr true (false) (.ints .i64 ((lvS N s).2.1)), .arr true (false) (.ints .i64 ((lvS N s).2.2)), .arr true (false) (.ints .i64 (b))]]
  | N, 0, s, hn, U, hN => by omega
  | 0, n + 1, s, hn, U, hN => by have := U.len; omega
  | N + 1, n + 1, s, hn, U, hN => by
    rw [qo1]
    have L := U.len
    unfold lvS toR
    by_cases g : unb s.1 < 0
    · rw [if_pos g, if_pos g]; simp (disch := omega) only [dF, qhj]
    · rw [if_neg g, if_neg g]
      obtain ⟨j, e, h1, h2⟩ := qz1 (by omega : 0 ≤ unb s.1)
      have c := qhh U.mesh h1 h2
      rw [e, Int.toNat_natCast]
      have U' := rf_U U c.1 c.2
      have IH := qrp k hk fu w0 v1 w1 v2 w2 v3 w3 v4 w4 r b N n _ (by omega) U' (by show 129 ≤ N + (qym s.1 _).length; rw [qyn c.1]; omega)
      have eR := qdo k (by omega) r s b U (qhg s.1 j) c.1 c.2
      have eT := qdw k (by omega) r false _ U'.mesh
      simp (disch := omega) only [dT, eR, qa9, nth0, qus, qzu, qut, qt3, quv, eT, quu, qob, qzx, qzy, IH, qhl]
theorem qcw (k : Nat) (hk : 2000000 ≤ k) (r : Int) (s : S3) (b : List Int) (U : StU r s b) : go (k + 4) impl_State_balance [.ptr true [.int .i64 (r), .arr true (false) (.r3 (s.1)), .arr true (false) (.ints .i64 (s.2.1)), .arr true (false) (.ints .i64 (s.2.2)), .arr true (false) (.ints .i64 (b))]] = some [.ptr true [.int .i64 (r), .arr true (false) (.r3 ((lvS 128 s).1)), .arr true (false) (.ints .i64 ((lvS 128 s).2.1)), .arr true (false) (.ints .i64 ((lvS 128 s).2.2)), .arr true (false) (.ints .i64 (b))]] := by
  rw [qjg]
  have eT := qdw k (by omega) r false _ U.mesh
  have L := U.len
  simp (disch := omega) only [eT, qa9, nth0, qzu]
  exact qrp k hk [] _ _ _ _ _ _ _ _ _ r b 128 _ s (by omega) U (by omega)
end Go.Proofs.YtoldpdhhfmlckaaGreat
end
section
namespace Go.Proofs.YtoldpdhhfmlckaaGreat
open Go.Ev
set_option maxRecDepth 20000
theorem len2 (x y : Int) : List.length [x, y] = 2 := Eq.trans rfl rfl
theorem gd0 (x y : Int) : List.getD [x, y] 0 0 = x := Eq.trans rfl rfl
theorem gd1 (x y : Int) : List.getD [x, y] 1 0 = y := Eq.trans rfl rfl
theorem len1 (x : Int) : List.length [x] = 1 := Eq.trans rfl rfl
theorem len0 : List.length ([] : List Int) = 0 := Eq.trans rfl rfl
theorem gdo (x : Int) : List.getD [x] 0 0 = x := Eq.trans rfl rfl
theorem ton1 : Int.toNat 1 = 1 := Eq.trans rfl rfl
def nb (l : List Cell) (i : Nat) : List Int := if 0 < i then (if i + 1 < l.length then [((i - 1 : Nat) : Int), ((i + 1 : Nat) : Int)] else [((i - 1 : Nat) : Int)]) else (if i + 1 < l.length then [((i + 1 : Nat) : Int)] else [])
theorem qdk (k : Nat) (hk : 2000000 ≤ k) (r : Int) (z : Bool) (l : List Cell) (h : qtl r 0 l = true) (i : Nat) (hi : i < l.length) :
    go (k + 3) impl_Mesh_neighbours [.agg [.int .i64 r, .arr false z (.r3 l)], .int .i64 (i : Int)] = some [.arr true false (.ints .i64 (nb l i))] := by
  rw [qiz]
  have L := qtr h
  have w1 : IntKind.wrap .i64 ((i : Int) - 1) = (i : Int) - 1 := q0l (by omega) (by omega)
  have w2 : IntKind.wrap .i64 ((i : Int) + 1) = ((i + 1 : Nat) : Int) := by rw [q0l (by omega) (by omega)]; omega
  have w3 : IntKind.wrap .i64 ((0 : Int) + 1) = 1 := by rw [q0l (by omega) (by omega)]; rfl
  have w4 : IntKind.wrap .i64 ((1 : Int) + 1) = 2 := by rw [q0l (by omega) (by omega)]; rfl
  rw [w1, w2, len2]
  have n2 : nI 2 = 2 := Eq.trans rfl rfl
  rw [n2]
  have la : ∀ x : Int, ([] ++ [x] : List Int).length = 1 := fun x => rfl
  have lb : ∀ x y : Int, ([x] ++ [y] : List Int).length = 2 := fun x y => rfl
  have f0 := qov (k + 2) (k + 2 - 1) [] 2 0 z l r false [] false [(i : Int) - 1, ((i + 1 : Nat) : Int)]
  have f1 := fun x => qov (k + 2) (k + 2 - 2) [] 2 1 z l r false x false [(i : Int) - 1, ((i + 1 : Nat) : Int)]
  have f2 := fun x => qov (k + 2) (k + 2 - 3) [] 2 2 z l r false x false [(i : Int) - 1, ((i + 1 : Nat) : Int)]
  rw [show k + 2 - 1 + 1 = k + 2 by omega] at f0
  rw [show k + 2 - 2 + 1 = k + 2 - 1 by omega] at f1
  rw [show k + 2 - 3 + 1 = k + 2 - 2 by omega] at f2
  simp (disch := omega) only [dF, dT, nI, len2, Bool.and_false, bit, big0, q0l, Bool.false_and, qhj] at f2
  unfold nb
  by_cases h0 : 0 < i
  · have b1 : inR ((i : Int) - 1) 0 ((l.length : Int) - 1) = true := qn9.2 (by omega)
    have ci : (i : Int) - 1 = ((i - 1 : Nat) : Int) := by omega
    rw [if_pos h0]
    by_cases h1 : i + 1 < l.length
    · have b2 : inR ((i + 1 : Nat) : Int) 0 ((l.length : Int) - 1) = true := qn9.2 (by omega)
      rw [if_pos h1]
      simp (disch := omega) only [dT, nI, len2, Bool.and_true, ton1, gd1, qc8, b2, bit, big0, w4, Bool.false_and, f2, qa9, nth0, qzt, qhl] at f1
      simp (disch := omega) only [dT, nI, len2, Bool.and_true, ton0, gd0, qc8, b1, bit, qt2, len1, big0, w3, dF, Bool.and_false, f1, lb, qhl, qa9, nth0, qzt] at f0
      rw [← ci]; exact f0
    · have b2 : inR ((i + 1 : Nat) : Int) 0 ((l.length : Int) - 1) = false := by rw [← Bool.not_eq_true, qn9]; omega
      rw [if_neg h1]
      simp (disch := omega) only [dT, nI, len2, Bool.and_true, ton1, gd1, qc8, b2, bit, big0, w4, Bool.false_and, f2, qa9, nth0, qzt, qhj, qhl] at f1
      simp (disch := omega) only [dT, nI, len2, Bool.and_true, ton0, gd0, qc8, b1, bit, qt2, len1, big0, w3, dF, Bool.and_false, f1, qhl, qa9, nth0, qzt] at f0
      rw [← ci]; exact f0
  · have b1 : inR ((i : Int) - 1) 0 ((l.length : Int) - 1) = false := by rw [← Bool.not_eq_true, qn9]; omega
    rw [if_neg h0]
    by_cases h1 : i + 1 < l.length
    · have b2 : inR ((i + 1 : Nat) : Int) 0 ((l.length : Int) - 1) = true := qn9.2 (by omega)
      rw [if_pos h1]
      simp (disch := omega) only [dT, nI, len2, Bool.and_true, ton1, gd1, qc8, b2, bit, big0, w4, Bool.false_and, f2, qa9, nth0, qzt, qhl] at f1
      have f1' := f1 []
      simp (disch := omega) only [qt2, len1, dT, qhl] at f1'
      simp (disch := omega) only [dT, nI, len2, Bool.and_true, ton0, gd0, qc8, b1, bit, qt2, big0, w3, Bool.false_and, f1', qa9, nth0, qzt, qhj, qhl] at f0
      exact f0
    · have b2 : inR ((i + 1 : Nat) : Int) 0 ((l.length : Int) - 1) = false := by rw [← Bool.not_eq_true, qn9]; omega
      rw [if_neg h1]
      simp (disch := omega) only [dT, nI, len2, Bool.and_true, ton1, gd1, qc8, b2, bit, big0, w4, Bool.false_and, f2, qa9, nth0, qzt, qhj, qhl] at f1
      simp (disch := omega) only [dT, nI, len2, Bool.and_true, ton0, gd0, qc8, b1, bit, qt2, big0, w3, Bool.false_and, f1, qa9, nth0, qzt, qhj, qhl] at f0
      exact f0
def jmp (l : List Cell) (m b : List Int) (i : Nat) : Int := max (if 0 < i then gap (surf l m b i) (surf l m b (i - 1)) else 0) (if i + 1 < l.length then gap (surf l m b i) (surf l m b (i + 1)) else 0)
theorem qnu (a b : Int) : 0 ≤ gap a b := by unfold gap; split <;> omega
theorem qnt (a b : Int) : max (0 - (a - b)) (a - b) = gap a b := by unfold gap; split <;> omega
set_option maxHeartbeats 4000000 in
theorem qdf (k : Nat) (hk : 2000000 ≤ k) (r : Int) (z1 z2 z3 z4 : Bool) (l : List Cell) (m t b : List Int) (F : StF r l m t b) (i : Nat) (hi : i < l.length) :
    go (k + 4) impl_State_jump [.agg [.int .i64 (r), .arr false (z1) (.r3 (l)), .arr false (z2) (.ints .i64 (m)), .arr false (z3) (.ints .i64 (t)), .arr false (z4) (.ints .i64 (b))], .int .i64 (i : Int)] = some [.int .i64 (jmp l m b i)] := by
  rw [qjn]
  have L := F.len; have ml := F.ml
  have s0 := qza F i; have s1 := qza F (i - 1); have s2 := qza F (i + 1)
  have g1 := qnu (surf l m b i) (surf l m b (i - 1)); have g2 := qnu (surf l m b i) (surf l m b (i + 1))
  have e0 := qdv (k + 2) (by omega) r z1 z2 z3 z4 l m t b F i hi
  have eN := qdk k (by omega) r z1 l F.mesh i hi
  have w3 : IntKind.wrap .i64 ((0 : Int) + 1) = 1 := by rw [q0l (by omega) (by omega)]; rfl
  have w4 : IntKind.wrap .i64 ((1 : Int) + 1) = 2 := by rw [q0l (by omega) (by omega)]; rfl
  have n2 : ((2 : Nat) : Int) = 2 := Eq.trans rfl rfl
  have n1 : ((1 : Nat) : Int) = 1 := Eq.trans rfl rfl
  have n0 : ((0 : Nat) : Int) = 0 := Eq.trans rfl rfl
  unfold jmp
  simp (disch := omega) only [eN, nI, qa9, nth0, qob, qt3]
  unfold nb
  by_cases h0 : 0 < i
  · have e1 := qdv (k + 2) (by omega) r z1 z2 z3 z4 l m t b F (i - 1) (by omega)
    rw [if_pos h0, if_pos h0]
    by_cases h1 : i + 1 < l.length
    · have e2 := qdv (k + 2) (by omega) r z1 z2 z3 z4 l m t b F (i + 1) (by omega)
      rw [if_pos h1, if_pos h1]
      have f0 := fun y => qo4 (k + 3) (k + 3 - 1) [] (i : Int) y 2 0 z1 l z2 m z3 t z4 b r false [((i - 1 : Nat) : Int), ((i + 1 : Nat) : Int)]
      have f1 := fun y => qo4 (k + 3) (k + 3 - 2) [] (i : Int) y 2 1 z1 l z2 m z3 t z4 b r false [((i - 1 : Nat) : Int), ((i + 1 : Nat) : Int)]
      have f2 := fun y => qo4 (k + 3) (k + 3 - 3) [] (i : Int) y 2 2 z1 l z2 m z3 t z4 b r false [((i - 1 : Nat) : Int), ((i + 1 : Nat) : Int)]
      rw [show k + 3 - 1 + 1 = k + 3 by omega] at f0
      rw [show k + 3 - 2 + 1 = k + 3 - 1 by omega] at f1
      rw [show k + 3 - 3 + 1 = k + 3 - 2 by omega] at f2
      simp (disch := omega) only [dF, dT, nI, len2, Bool.and_false, imax, q0l, qhj] at f2
      simp (disch := omega) only [dT, nI, len2, Bool.and_true, e0, ton1, gd1, e2, imax, w4, f2, qa9, nth0, qzu, q0l, qct, qnt, qhl] at f1
      simp (disch := omega) only [dT, nI, len2, Bool.and_true, e0, ton0, gd0, e1, imax, w3, f1, qa9, nth0, qzu, q0l, qct, qnt, qhl] at f0
      rw [len2, n2, f0, show ∀ x y : Int, 0 ≤ x → max y (max x 0) = max x y from fun x y h => by omega]
      exact g1
    · rw [if_neg h1, if_neg h1]
      have f0 := fun y => qo4 (k + 3) (k + 3 - 1) [] (i : Int) y 1 0 z1 l z2 m z3 t z4 b r false [((i - 1 : Nat) : Int)]
      have f1 := fun y => qo4 (k + 3) (k + 3 - 2) [] (i : Int) y 1 1 z1 l z2 m z3 t z4 b r false [((i - 1 : Nat) : Int)]
      rw [show k + 3 - 1 + 1 = k + 3 by omega] at f0
      rw [show k + 3 - 2 + 1 = k + 3 - 1 by omega] at f1
      simp (disch := omega) only [dF, dT, nI, len1, Bool.and_false, imax, q0l, qhj] at f1
      simp (disch := omega) only [dT, nI, len1, Bool.and_true, e0, ton0, gdo, e1, imax, w3, f1, qa9, nth0, qzu, q0l, qct, qnt, qhl] at f0
      rw [len1, n1, f0]
  · rw [if_neg h0, if_neg h0]
    by_cases h1 : i + 1 < l.length
    · have e2 := qdv (k + 2) (by omega) r z1 z2 z3 z4 l m t b F (i + 1) (by omega)
      rw [if_pos h1, if_pos h1]
      have f0 := fun y => qo4 (k + 3) (k + 3 - 1) [] (i : Int) y 1 0 z1 l z2 m z3 t z4 b r false [((i + 1 : Nat) : Int)]
      have f1 := fun y => qo4 (k + 3) (k + 3 - 2) [] (i : Int) y 1 1 z1 l z2 m z3 t z4 b r false [((i + 1 : Nat) : Int)]
      rw [show k + 3 - 1 + 1 = k + 3 by omega] at f0
      rw [show k + 3 - 2 + 1 = k + 3 - 1 by omega] at f1
      simp (disch := omega) only [dF, dT, nI, len1, Bool.and_false, imax, q0l, qhj] at f1
      simp (disch := omega) only [dT, nI, len1, Bool.and_true, e0, ton0, gdo, e2, imax, w3, f1, qa9, nth0, qzu, q0l, qct, qnt, qhl] at f0
      rw [len1, n1, f0, show ∀ x : Int, max x 0 = max 0 x from fun x => by omega]
    · rw [if_neg h1, if_neg h1]
      have f0 := fun y => qo4 (k + 3) (k + 3 - 1) [] (i : Int) y 0 0 z1 l z2 m z3 t z4 b r false []
      rw [show k + 3 - 1 + 1 = k + 3 by omega] at f0
      simp (disch := omega) only [dF, dT, nI, len0, Bool.and_false, imax, q0l, qhj] at f0
      rw [len0, n0, f0]
      rfl
def wsh (l : List Cell) (m b : List Int) (hi lo : Int) (i : Nat) : Int := if hi < jmp l m b i ∧ qqx l i < 4 then 1 else if jmp l m b i < lo ∧ 0 < qqx l i then -1 else 0
theorem qzi (n : Nat) (g : Nat → Int) : tab (n + 1) g = tab n g ++ [g n] := by
  unfold tab; rw [List.range_succ, List.map_append]; rfl
theorem qom {r : Int} {l : List Cell} {m t b : List Int} (F : StF r l m t b) (i : Nat) : 0 ≤ jmp l m b i ∧ jmp l m b i ≤ 161000000 := by
  have s0 := qza F i; have s1 := qza F (i - 1); have s2 := qza F (i + 1)
  unfold jmp gap
  by_cases h0 : 0 < i
  · rw [if_pos h0]
    by_cases h1 : i + 1 < l.length
    · rw [if_pos h1]; omega
    · rw [if_neg h1]; omega
  · rw [if_neg h0]
    by_cases h1 : i + 1 < l.length
    · rw [if_pos h1]; omega
    · rw [if_neg h1]; omega
theorem qrn (k : Nat) (hk : 2000000 ≤ k) (fu : List (Nat × Nat)) (hi lo r : Int) (z1 z2 z3 z4 : Bool) (l : List Cell) (m t b : List Int) (F : StF r l m t b) : ∀ (N i : Nat), i ≤ l.length → l.length - i < N →
    lp (k + 8) impl_Wishes [] fu 5 (N) (qwn hi lo (l.length : Int) (i : Int) z1 l z2 m z3 t z4 b r false (tab i (wsh l m b hi lo))) = some [.arr true false (.ints .i64 (tab l.length (wsh l m b hi lo)))]
  | 0, i, hl, hN => by omega
  | N + 1, i, hl, hN => by
    rw [qpd]
    have L := F.len; have ml := F.ml
    by_cases g : i < l.length
    · have IH := qrn k hk fu hi lo r z1 z2 z3 z4 l m t b F N (i + 1) (by omega) (by omega)
      have eJ := qdf (k + 4) (by omega) r z1 z2 z3 z4 l m t b F i g
      have la : ∀ x : Int, (tab i (wsh l m b hi lo) ++ [x]).length = i + 1 := fun x => by rw [List.length_append, qzf]; rfl
      rw [qzi] at IH
      have jb := qom F i
      simp only [wsh, qqx] at IH
      by_cases h1 : hi < jmp l m b i
      · by_cases h2 : (l.getD i zz3).2.1 < 4
        · rw [if_pos ⟨h1, h2⟩] at IH; simp (disch := omega) only [dT, nI, Bool.and_true, eJ, Int.toNat_natCast, la, big0, qgp, q0l, dF, Bool.and_false, IH, qhl, qa9, nth0, qzu]
        · rw [if_neg (fun h => h2 h.2)] at IH
          by_cases h3 : jmp l m b i < lo
          · have h4 : 0 < (l.getD i zz3).2.1 := by omega
            rw [if_pos ⟨h3, h4⟩] at IH; simp (disch := omega) only [dT, nI, Bool.and_true, eJ, Int.toNat_natCast, dF, la, big0, qgp, q0l, Bool.and_false, qhl, IH, qhj, qa9, nth0, qzu]
          · rw [if_neg (fun h => h3 h.1)] at IH; simp (disch := omega) only [dT, nI, Bool.and_true, eJ, Int.toNat_natCast, dF, la, big0, qgp, q0l, Bool.and_false, qhl, IH, qhj, qa9, nth0, qzu]
      · rw [if_neg (fun h => h1 h.1)] at IH
        by_cases h3 : jmp l m b i < lo
        · by_cases h4 : 0 < (l.getD i zz3).2.1
          · rw [if_pos ⟨h3, h4⟩] at IH; simp (disch := omega) only [dT, nI, Bool.and_true, eJ, Int.toNat_natCast, la, big0, qgp, q0l, dF, Bool.and_false, qhl, IH, qa9, nth0, qzu, qhj]
          · rw [if_neg (fun h => h4 h.2)] at IH; simp (disch := omega) only [dT, nI, Bool.and_true, eJ, Int.toNat_natCast, la, big0, qgp, q0l, dF, Bool.and_false, qhl, IH, qhj, qa9, nth0, qzu]
        · rw [if_neg (fun h => h3 h.1)] at IH; simp (disch := omega) only [dT, nI, Bool.and_true, eJ, Int.toNat_natCast, la, big0, qgp, q0l, dF, Bool.and_false, qhl, IH, qa9, nth0, qzu, qhj]
    · simp (disch := omega) only [dF, dT, nI, Bool.and_false, Int.toNat_natCast, big0, qgp, q0l, Bool.false_and, qhj]
      rw [show i = l.length by omega]
theorem qcq (k : Nat) (hk : 2000000 ≤ k) (hi lo r : Int) (z1 z2 z3 z4 : Bool) (l : List Cell) (m t b : List Int) (F : StF r l m t b) :
    go (k + 9) impl_Wishes [.agg [.int .i64 (r), .arr false (z1) (.r3 (l)), .arr false (z2) (.ints .i64 (m)), .arr false (z3) (.ints .i64 (t)), .arr false (z4) (.ints .i64 (b))], .int .i64 hi, .int .i64 lo] = some [.arr true false (.ints .i64 (tab l.length (wsh l m b hi lo)))] := by
  rw [qj3]
  have L := F.len; have ml := F.ml; have bl := F.bl; have rr := F.rr
  have g := stF.2 F
  simp (disch := omega) only [qck, g, bit, nI, qa9, nth0, qzt, Bool.not_true, qhj]
  exact qrn k hk [] hi lo r z1 z2 z3 z4 l m t b F _ 0 (by omega) (by omega)
end Go.Proofs.YtoldpdhhfmlckaaGreat
end
section
namespace Go.Proofs.YtoldpdhhfmlckaaGreat
open Go.Ev
set_option maxRecDepth 20000
def qq1 (x : Cell) : List Cell → Nat → Int
  | [], _ => -1
  | y :: r, i => if y = x then (i : Int) else qq1 x r (i + 1)
def lof (l : List Cell) (x : Cell) : Int := qq1 x l 0
theorem qq2 (x : Cell) : ∀ (l : List Cell) (i : Nat), (qq1 x l i = -1 ∧ x ∉ l) ∨ ∃ j, j < l.length ∧ qq1 x l i = ((i + j : Nat) : Int) ∧ l.getD j zz3 = x
  | [], i => Or.inl ⟨rfl, by simp⟩
  | y :: r, i => by
    unfold qq1
    by_cases h : y = x
    · rw [if_pos h]; exact Or.inr ⟨0, by simp, by simp, by simpa using h⟩
    · rw [if_neg h]
      rcases qq2 x r (i + 1) with ⟨e, n⟩ | ⟨j, hj, e, n⟩
      · exact Or.inl ⟨e, by simp only [List.mem_cons, not_or]; exact ⟨fun e => h e.symm, n⟩⟩
      · exact Or.inr ⟨j + 1, by simp; omega, by rw [e]; congr 1; omega, by simpa using n⟩
theorem qq3 (l : List Cell) (x : Cell) : (lof l x = -1 ∧ x ∉ l) ∨ ∃ j, j < l.length ∧ lof l x = (j : Int) ∧ l.getD j zz3 = x := by
  rcases qq2 x l 0 with h | ⟨j, hj, e, n⟩
  · exact Or.inl h
  · exact Or.inr ⟨j, hj, by unfold lof; rw [e, Nat.zero_add], n⟩
theorem qt9 : ∀ (l : List Cell) (p : Int), okp p l = true → ∀ x ∈ l, p ≤ qyv x.1 x.2.1 x.2.2
  | [], p, h, x, hx => by cases hx
  | y :: l, p, h, x, hx => by
    rw [qt8] at h
    rcases List.mem_cons.1 hx with rfl | hx
    · omega
    · have := qt9 l _ h.2.2 x hx
      have := q0f y.2.1
      omega
theorem q0i {x : Cell} (h : idOk x.1 x.2.1 x.2.2 = true) : 1 ≤ q0d x.2.1 := by
  rcases lev (qn9.2 (qn6.1 h).2.1) with e | e | e | e | e <;> rw [e] <;> decide
theorem qua : ∀ (l : List Cell) (p : Int), okp p l = true → ∀ i j, i < l.length → j < l.length → l.getD i zz3 = l.getD j zz3 → i = j
  | [], p, h, i, j, hi, hj, e => by simp at hi
  | y :: l, p, h, 0, 0, hi, hj, e => rfl
  | y :: l, p, h, 0, j + 1, hi, hj, e => by
    rw [qt8] at h
    have hj' : j < l.length := by simpa using hj
    have := qt9 l _ h.2.2 _ (qnw hj' zz3)
    have w := q0i h.1
    simp only [List.getD_cons_zero, List.getD_cons_succ] at e
    rw [← e, h.2.1] at this
    omega
  | y :: l, p, h, i + 1, 0, hi, hj, e => by
    rw [qt8] at h
    have hi' : i < l.length := by simpa using hi
    have := qt9 l _ h.2.2 _ (qnw hi' zz3)
    have w := q0i h.1
    simp only [List.getD_cons_zero, List.getD_cons_succ] at e
    rw [e, h.2.1] at this
    omega
  | y :: l, p, h, i + 1, j + 1, hi, hj, e => by
    rw [qt8] at h
    have := qua l _ h.2.2 i j (by simpa using hi) (by simpa using hj) (by simpa using e)
    omega
def Pw (w : List Int) (l0 : List Cell) (x : Cell) : Bool := decide (0 ≤ lof l0 x) && decide (w.getD (lof l0 x).toNat 0 = -1)
theorem qag {w : List Int} {l0 : List Cell} {p : Int} (h : okp p l0 = true) (x : Cell) : Pw w l0 x = true ↔ ∃ j, j < l0.length ∧ w.getD j 0 = -1 ∧ l0.getD j zz3 = x := by
  unfold Pw
  rw [Bool.and_eq_true, decide_eq_true_eq, decide_eq_true_eq]
  rcases qq3 l0 x with ⟨e, n⟩ | ⟨j, hj, e, n⟩
  · rw [e]
    refine ⟨fun h => by omega, fun ⟨j, hj, _, hx⟩ => absurd (hx ▸ qnw hj zz3) n⟩
  · rw [e, Int.toNat_natCast]
    refine ⟨fun h => ⟨j, hj, h.2, n⟩, fun ⟨q, hq, hw, hx⟩ => ⟨by omega, ?_⟩⟩
    have := qua l0 p h q j hq hj (by rw [hx, n])
    rw [← this]; exact hw
def ks (w : List Int) (l0 : List Cell) : Nat → List Cell → List Cell
  | 0, acc => acc
  | n + 1, acc => ks w l0 n (if w.getD n 0 = 1 then acc else if w.getD n 0 = -1 then acc ++ [l0.getD n zz3] else acc)
theorem qop (w : List Int) (l0 : List Cell) (x : Cell) : ∀ (n : Nat) (acc : List Cell), x ∈ ks w l0 n acc ↔ x ∈ acc ∨ ∃ j, j < n ∧ w.getD j 0 = -1 ∧ l0.getD j zz3 = x
  | 0, acc => ⟨Or.inl, fun h => h.elim id fun ⟨j, hj, _⟩ => by omega⟩
  | n + 1, acc => by
    rw [ks, qop w l0 x n]
    by_cases h1 : w.getD n 0 = 1
    · rw [if_pos h1]
      refine ⟨fun h => h.imp id fun ⟨j, hj, e⟩ => ⟨j, by omega, e⟩, fun h => h.imp id fun ⟨j, hj, e, e'⟩ => ⟨j, ?_, e, e'⟩⟩
      by_cases hjn : j = n
      · subst hjn; omega
      · omega
    · rw [if_neg h1]
      by_cases h2 : w.getD n 0 = -1
      · rw [if_pos h2, List.mem_append, List.mem_singleton]
        refine ⟨fun h => ?_, fun h => ?_⟩
        · rcases h with (h | h) | ⟨j, hj, e⟩
          · exact Or.inl h
          · exact Or.inr ⟨n, by omega, h2, h.symm⟩
          · exact Or.inr ⟨j, by omega, e⟩
        · rcases h with h | ⟨j, hj, e, e'⟩
          · exact Or.inl (Or.inl h)
          · by_cases hjn : j = n
            · subst hjn; exact Or.inl (Or.inr e'.symm)
            · exact Or.inr ⟨j, by omega, e, e'⟩
      · rw [if_neg h2]
        refine ⟨fun h => h.imp id fun ⟨j, hj, e⟩ => ⟨j, by omega, e⟩, fun h => h.imp id fun ⟨j, hj, e, e'⟩ => ⟨j, ?_, e, e'⟩⟩
        by_cases hjn : j = n
        · subst hjn; exact absurd e h2
        · omega
theorem qn3 (l : List Cell) (x : Cell) : hasK l x = true ↔ x ∈ l := by
  unfold hasK
  rw [List.any_eq_true]
  refine ⟨fun ⟨y, hy, e⟩ => ?_, fun h => ⟨x, h, by simp [eqK]⟩⟩
  have : x = y := by
    simp only [eqK, Bool.and_eq_true, beq_iff_eq, decide_eq_true_eq] at e
    exact Prod.ext e.1 (Prod.ext e.2.1 e.2.2)
  rw [this]; exact hy
theorem qn2 {w : List Int} {l0 : List Cell} {p : Int} (h : okp p l0 = true) (x : Cell) : hasK (ks w l0 l0.length []) x = Pw w l0 x := by
  rw [Bool.eq_iff_iff, qn3, qop, qag h]
  simp
def adS (w : List Int) (s : S3) : S3 := mgS (Pw w s.1) 128 0 (lvS 128 (spS w s.1.length s))
theorem q0n {l : List Cell} {m b : List Int} {hi lo : Int} (j : Nat) (h : (tab l.length (wsh l m b hi lo)).getD j 0 = 1) : qqx l j < 4 := by
  by_cases hj : j < l.length
  · rw [qze hj] at h
    unfold wsh at h
    by_cases c : hi < jmp l m b j ∧ qqx l j < 4
    · exact c.2
    · rw [if_neg c] at h
      split at h <;> omega
  · rw [qnv (by rw [qzf]; omega)] at h; omega
set_option maxHeartbeats 1000000 in
theorem qrs (k : Nat) (hk : 2000000 ≤ k) (fu : List (Nat × Nat)) (w0 : Int) (v1 : Bool) (w1 : List Cell) (v2 : Bool) (w2 : List Int) (v3 : Bool) (w3 : List Int) (v4 : Bool) (w4 : List Int) (r : Int) (b : List Int) (K : List Cell) (P : Cell → Bool) (hP : ∀ x, hasK K x = P x) : ∀ (F N i : Nat) (s : S3), s.1.length - i ≤ F → F < N → i + F ≤ 4096 → StU r s b →
    lp (k + 9) impl_State_adapt [.ptr true [.int .i64 w0, .arr true v1 (.r3 w1), .arr true v2 (.ints .i64 w2), .arr true v3 (.ints .i64 w3), .arr true v4 (.ints .i64 w4)]] fu 12 N (qv9 (i : Int) false s.1 false s.2.1 false s.2.2 false b r K) = some [.ptr true [.int .i64 (r), .arr true (false) (.r3 ((mgS P F i s).1)), .arr true (false) (.ints .i64 ((mgS P F i s).2.1)), .arr true (false) (.ints .i64 ((mgS P F i s).2.2)), .arr true (false) (.ints .i64 (b))]]
  | F, 0, i, s, hF, hN, hi, U => by omega
  | 0, N + 1, i, s, hF, hN, hi, U => by
    rw [qoz]
    have L := U.len
    simp (disch := omega) only [qgp, q0l, nI, dF, dT, Bool.and_false, Int.toNat_natCast, bit, qhj]; rfl
  | F + 1, N + 1, i, s, hF, hN, hi, U => by
    rw [qoz]
    have L := U.len; have ml := U.ml; have tl := U.tl
    unfold mgS
    by_cases g : i + 1 < s.1.length
    · rw [if_pos g]
      have IH0 := qrs k hk fu w0 v1 w1 v2 w2 v3 w3 v4 w4 r b K P hP F N (i + 1) s (by omega) (by omega) (by omega) U
      have eM := qdi (k + 3) (by omega) r false s.1 U.mesh i g
      have hx := hP (s.1.getD i zz3); have hy := hP (s.1.getD (i + 1) zz3)
      cases p1 : P (s.1.getD i zz3)
      · rw [p1] at hx
        rw [if_neg (by simp)]
        simp (disch := omega) only [qgp, q0l, nI, dT, Bool.and_true, Int.toNat_natCast, hx, bit, IH0, qhl, qhj]
      rw [p1] at hx
      cases p2 : P (s.1.getD (i + 1) zz3)
      · rw [p2] at hy
        rw [if_neg (by simp)]
        simp (disch := omega) only [qgp, q0l, nI, dT, Bool.and_true, Int.toNat_natCast, hx, hy, bit, IH0, qhj, qhl]
      rw [p2] at hy
      cases hm : mayC s.1 i
      · rw [if_neg (by simp)]
        simp (disch := omega) only [qgp, q0l, nI, dT, Bool.and_true, Int.toNat_natCast, hx, hy, eM, hm, bit, IH0, qa9, nth0, qzt, qhj, qhl]
      · have hs := hm
        simp only [mayC, Bool.and_eq_true] at hs
        have sl := qyf hs.1
        have U' := cm_U U g hs.1
        have ln := qti g
        have IH1 := qrs k hk fu w0 v1 w1 v2 w2 v3 w3 v4 w4 r b K P hP F N (i + 1) (cmS s i) (by show (qth s.1 i).length - (i + 1) ≤ F; omega) (by omega) (by omega) U'
        have eG := qcy (k + 3) (by omega) r s b U i g sl
        rw [if_pos (show (true && (true && true)) = true from rfl)]
        simp (disch := omega) only [qgp, q0l, nI, dT, Bool.and_true, Int.toNat_natCast, hx, hy, eM, hm, bit, eG, qa9, nth0, qut, qt3, quv, quu, qob, qzx, qzy, qus, qzu, IH1, qzt, qhl]
    · rw [if_neg g]; simp (disch := omega) only [qgp, q0l, nI, dF, dT, Bool.true_and, Int.toNat_natCast, Bool.and_false, bit, qhj]
theorem qrw (k : Nat) (hk : 2000000 ≤ k) (fu : List (Nat × Nat)) (w0 : Int) (v1 : Bool) (w1 : List Cell) (v2 : Bool) (w2 : List Int) (v3 : Bool) (w3 : List Int) (v4 : Bool) (w4 : List Int) (r : Int) (b : List Int) (l0 : List Cell) (zw : Bool) (w : List Int) (P : Cell → Bool) (hl0 : l0.length ≤ 128) (hw : w.length = l0.length) (hw1 : ∀ j, w.getD j 0 = 1 → qqx l0 j < 4) : ∀ (N n : Nat) (s : S3) (acc : List Cell), n < N → n ≤ l0.length → n ≤ s.1.length → (∀ j, j < n → s.1.getD j zz3 = l0.getD j zz3) → StU r s b → (∀ x, hasK (ks w l0 n acc) x = P x) →
    lp (k + 9) impl_State_adapt [.ptr true [.int .i64 w0, .arr true v1 (.r3 w1), .arr true v2 (.ints .i64 w2), .arr true v3 (.ints .i64 w3), .arr true v4 (.ints .i64 w4)]] fu 3 N (qwa ((n : Int) - 1) false s.1 false s.2.1 false s.2.2 false b r zw w acc) = some [.ptr true [.int .i64 (r), .arr true (false) (.r3 ((mgS P 128 0 (lvS 128 (spS w n s))).1)), .arr true (false) (.ints .i64 ((mgS P 128 0 (lvS 128 (spS w n s))).2.1)), .arr true (false) (.ints .i64 ((mgS P 128 0 (lvS 128 (spS w n s))).2.2)), .arr true (false) (.ints .i64 (b))]]
  | 0, n, s, acc, hN, hn, hs, he, U, hK => by omega
  | N + 1, 0, s, acc, hN, hn, hs, he, U, hK => by
    rw [qo0]
    have L := U.len
    have eL := qcw (k + 5) (by omega) r s b U
    have U' := (qq4 128 s U (by omega)).1
    have L' := U'.len
    have e := qrs k hk fu w0 v1 w1 v2 w2 v3 w3 v4 w4 r b acc P hK 128 (k + 9) 0 (lvS 128 s) (by omega) (by omega) (by omega) U'
    rw [show ((0 : Nat) : Int) = 0 from rfl] at e ⊢
    simp (disch := omega) only [dF, nI, dT, Bool.and_true, q0l, qhj, eL, qa9, nth0, qut, qt3, quv, quu, qob, qzx, qzy, qus, qzu, e]
    rfl
  | N + 1, n + 1, s, acc, hN, hn, hs, he, U, hK => by
    rw [show ((n + 1 : Nat) : Int) - 1 = (n : Int) by omega, qo0]
    have L := U.len
    unfold spS
    unfold ks at hK
    by_cases h1 : w.getD n 0 = 1
    · rw [if_pos h1]
      rw [if_pos h1] at hK
      have hl : qqx s.1 n < 4 := by have := hw1 n h1; unfold qqx at *; rw [he n (by omega)]; exact this
      have U' := rf_U U (show n < s.1.length by omega) hl
      have ln := qyn (show n < s.1.length by omega)
      have IH := qrw k hk fu w0 v1 w1 v2 w2 v3 w3 v4 w4 r b l0 zw w P hl0 hw hw1 N n (rfS s n) acc (by omega) (by omega) (by show n ≤ (qym s.1 n).length; omega) (fun j hj => by
        show (qym s.1 n).getD j zz3 = _
        rw [qyo (by omega) hj]; exact he j (by omega)) U' hK
      have eS := qdo (k + 6) (by omega) r s b U n (by omega) hl
      simp (disch := omega) only [dT, nI, Bool.and_true, Int.toNat_natCast, h1, dTT, eS, q0l, qa9, nth0, qut, qt3, quv, quu, qob, qzx, qzy, qus, qzu, IH, dF, qhl, qhj]
    · rw [if_neg h1]
      rw [if_neg h1] at hK
      by_cases h2 : w.getD n 0 = -1
      · rw [if_pos h2] at hK
        have IH := qrw k hk fu w0 v1 w1 v2 w2 v3 w3 v4 w4 r b l0 zw w P hl0 hw hw1 N n s _ (by omega) (by omega) (by omega) (fun j hj => he j (by omega)) U hK
        have hen := he n (by omega)
        simp (disch := omega) only [dT, nI, Bool.and_true, Int.toNat_natCast, h2, dF, q0l, dTT, hen, IH, qhl, qhj]
      · rw [if_neg h2] at hK
        have IH := qrw k hk fu w0 v1 w1 v2 w2 v3 w3 v4 w4 r b l0 zw w P hl0 hw hw1 N n s acc (by omega) (by omega) (by omega) (fun j hj => he j (by omega)) U hK
        simp (disch := omega) only [dT, nI, Bool.and_true, Int.toNat_natCast, dF, q0l, qhl, IH, qhj]
theorem qcv (k : Nat) (hk : 2000000 ≤ k) (r : Int) (l : List Cell) (m t b : List Int) (F : StF r l m t b) (hi lo : Int) :
    go (k + 10) impl_State_adapt [.ptr true [.int .i64 (r), .arr true (false) (.r3 (l)), .arr true (false) (.ints .i64 (m)), .arr true (false) (.ints .i64 (t)), .arr true (false) (.ints .i64 (b))], .int .i64 hi, .int .i64 lo] = some [.ptr true [.int .i64 (r), .arr true (false) (.r3 ((adS (tab l.length (wsh l m b hi lo)) (l, m, t)).1)), .arr true (false) (.ints .i64 ((adS (tab l.length (wsh l m b hi lo)) (l, m, t)).2.1)), .arr true (false) (.ints .i64 ((adS (tab l.length (wsh l m b hi lo)) (l, m, t)).2.2)), .arr true (false) (.ints .i64 (b))]] := by
  rw [qjf]
  have L := F.len; have ml := F.ml; have tl := F.tl; have bl := F.bl; have rr := F.rr
  have eW := qcq k (by omega) hi lo r false false false false l m t b F
  simp (disch := omega) only [eW, nI, qa9, nth0, qob, qzf, q0l, qt3]
  have hP := qn2 (w := tab l.length (wsh l m b hi lo)) (qtn.1 F.mesh).1
  exact qrw k hk [] _ _ _ _ _ _ _ _ _ r b l false _ _ (by omega) (qzf _ _) q0n (k + 9) l.length (l, m, t) [] (by omega) (by omega) (by show l.length ≤ l.length; omega) (fun j hj => rfl) F.toU hP
theorem ad_U {r : Int} {l : List Cell} {m t b : List Int} (F : StF r l m t b) (hi lo : Int) : StF r (adS (tab l.length (wsh l m b hi lo)) (l, m, t)).1 (adS (tab l.length (wsh l m b hi lo)) (l, m, t)).2.1 (adS (tab l.length (wsh l m b hi lo)) (l, m, t)).2.2 b := by
  have U := qyk (tab l.length (wsh l m b hi lo)) l q0n l.length (l, m, t) F.toU (Nat.le_refl _) (fun j hj => rfl)
  have V := qq4 128 _ U (by have := U.len; omega)
  exact (qtu _ 128 0 _ V.1).toF (qtw _ 128 0 _ V.2)
end Go.Proofs.YtoldpdhhfmlckaaGreat
end
section
namespace Go.Proofs.YtoldpdhhfmlckaaGreat
open Go.Ev
abbrev S2 := List Int × List Int
structure Ld where
  mi : Int
  mo : Int
  ti : Int
  ou : Int
structure Pl where
  bi : Int
  bs : Int
  bo : Int
  rain : Int
  loss : Int
  dec : Int
  high : Int
  low : Int
  every : Int
def Ld.add (a b : Ld) : Ld := ⟨a.mi + b.mi, a.mo + b.mo, a.ti + b.ti, a.ou + b.ou⟩
structure Led (s s' : S2) (l : Ld) : Prop where
  m : isum s'.1 = isum s.1 + l.mi - l.mo
  t : isum s'.2 = isum s.2 + l.ti - l.ou
  mi : 0 ≤ l.mi ∧ l.mi ≤ 10000000
  mo : 0 ≤ l.mo ∧ l.mo ≤ 10000000
  ti : 0 ≤ l.ti ∧ l.ti ≤ 10000000000
  ou : 0 ≤ l.ou ∧ l.ou ≤ 10000000000
theorem qoj : ∀ (l : List Int) (i : Nat) (x : Int), i < l.length → isum (l.set i x) = isum l - l.getD i 0 + x
  | [], i, x, h => by simp at h
  | y :: l, 0, x, h => by simp only [List.set_cons_zero, isum, List.getD_cons_zero]; omega
  | y :: l, i + 1, x, h => by
    have := qoj l i x (by simpa using h)
    simp only [List.set_cons_succ, isum, List.getD_cons_succ, this]; omega
theorem qy5 (f g : Nat → Int) : ∀ n, qy4 (fun j => f j + g j) n = qy4 f n + qy4 g n
  | 0 => rfl
  | n + 1 => by have := qy5 f g n; simp only [qy4]; omega
theorem qy9 (f g : Nat → Int) : ∀ n, qy4 (fun j => f j - g j) n = qy4 f n - qy4 g n
  | 0 => rfl
  | n + 1 => by have := qy9 f g n; simp only [qy4]; omega
theorem qy8 {f : Nat → Int} : ∀ n, (∀ j, j < n → 0 ≤ f j) → 0 ≤ qy4 f n
  | 0, h => Int.le_refl _
  | n + 1, h => by have := qy8 n fun j hj => h j (by omega); have := h n (by omega); simp only [qy4]; omega
theorem qy6 {f g : Nat → Int} : ∀ n, (∀ j, j < n → f j ≤ g j) → qy4 f n ≤ qy4 g n
  | 0, h => Int.le_refl _
  | n + 1, h => by have := qy6 n fun j hj => h j (by omega); have := h n (by omega); simp only [qy4]; omega
theorem StF.tle {r : Int} {l : List Cell} {m t b : List Int} (F : StF r l m t b) : 0 ≤ isum t ∧ isum t ≤ 10000000000 := by
  have e : isum t ≤ 1000 * isum m := by
    rw [qok t, qok m, F.tl, F.ml]
    have : ∀ n, qy4 (fun j => t.getD j 0) n ≤ 1000 * qy4 (fun j => m.getD j 0) n := by
      intro n
      induction n with
      | zero => simp [qy4]
      | succ n ih => have := F.at n; simp only [qy4]; omega
    exact this _
  have := F.tsum; have := F.msum
  omega
theorem StF.mk' {r : Int} {l : List Cell} {m t b m' t' : List Int} (F : StF r l m t b) (hm : m'.length = l.length) (ht : t'.length = l.length) (h : ∀ i, i < l.length → 0 ≤ m'.getD i 0 ∧ 0 ≤ t'.getD i 0 ∧ t'.getD i 0 ≤ 1000 * m'.getD i 0) (hs : isum m' ≤ 10000000) : StF r l m' t' b := by
  refine ⟨F.mesh, F.bal, hm, ht, F.bl, ?_, F.bed, hs⟩
  refine qte _ _ (by omega) fun i hi => ?_
  have a := h i (by omega)
  have nn : ∀ x ∈ m', 0 ≤ x := by
    intro x hx
    obtain ⟨j, hj, rfl⟩ := List.getElem_of_mem hx
    have := (h j (by omega)).1
    rwa [List.getD_eq_getElem?_getD, List.getElem?_eq_getElem hj, Option.getD_some] at this
  have := qnc m' nn _ (qnw hi 0)
  exact ⟨⟨a.1, by omega⟩, a.2⟩
def boX (o : Int) (m : List Int) : Int := m.getD (m.length - 1) 0 * o / 1000
def boY (o : Int) (m t : List Int) : Int := qx7 (t.getD (m.length - 1) 0) (boX o m) (m.getD (m.length - 1) 0)
def bo1 (o : Int) (s : S2) : S2 := (s.1.set (s.1.length - 1) (s.1.getD (s.1.length - 1) 0 - boX o s.1), s.2.set (s.1.length - 1) (s.2.getD (s.1.length - 1) 0 - boY o s.1 s.2))
def bo2 (a c : Int) (s : S2) : S2 := (s.1.set 0 (s.1.getD 0 0 + a), s.2.set 0 (s.2.getD 0 0 + a * c))
def boS (a c o : Int) (s : S2) : S2 × Ld := if isum (bo1 o s).1 + a ≤ 10000000 then (bo2 a c (bo1 o s), ⟨a, boX o s.1, a * c, boY o s.1 s.2⟩) else (bo1 o s, ⟨0, boX o s.1, 0, boY o s.1 s.2⟩)
section
variable {r : Int} {l : List Cell} {m t b : List Int}
theorem qug {x y p : Int} (hx : 0 ≤ x ∧ x ≤ 10000000) (hy : 0 ≤ y ∧ y ≤ 1000 * x) (hp : 0 ≤ p ∧ p ≤ x) : (0 ≤ qx7 y p x ∧ qx7 y p x ≤ y) ∧ y - qx7 y p x ≤ 1000 * (x - p) := by
  by_cases h : 1 ≤ x
  · have := qyc h hp.1 hp.2 hy.1 hy.2
    rw [qx8 h hx.2 hp.1 hp.2 hy.1 hy.2]
    omega
  · have e : qx7 y p x = 0 := by
      unfold qx7
      have : inR x 1 10000000 = false := by rw [← Bool.not_eq_true, qn9]; omega
      rw [this]; rfl
    rw [e]; omega
theorem qbd (F : StF r l m t b) {o : Int} (ho : 0 ≤ o ∧ o ≤ 250) : 0 ≤ boX o m ∧ boX o m ≤ m.getD (m.length - 1) 0 := by
  have a := F.at (m.length - 1)
  unfold boX
  have h1 : 0 ≤ m.getD (m.length - 1) 0 * o := Int.mul_nonneg a.1 ho.1
  have h2 : m.getD (m.length - 1) 0 * o ≤ m.getD (m.length - 1) 0 * 250 := Int.mul_le_mul_of_nonneg_left ho.2 a.1
  omega
theorem qbe (F : StF r l m t b) {o : Int} (ho : 0 ≤ o ∧ o ≤ 250) : (0 ≤ boY o m t ∧ boY o m t ≤ t.getD (m.length - 1) 0) ∧ t.getD (m.length - 1) 0 - boY o m t ≤ 1000 * (m.getD (m.length - 1) 0 - boX o m) := by
  have a := F.at (m.length - 1)
  exact qug ⟨a.1, a.2.1⟩ a.2.2 (qbd F ho)
theorem qx4 {x : List Int} {i j : Nat} {v : Int} (h : i < x.length) : (x.set i v).getD j 0 = if i = j then v else x.getD j 0 := by
  rw [qx5]
  by_cases e : i = j
  · rw [if_pos ⟨e, h⟩, if_pos e]
  · rw [if_neg (fun c => e c.1), if_neg e]
theorem qbb (F : StF r l m t b) {o : Int} (ho : 0 ≤ o ∧ o ≤ 250) : StF r l (bo1 o (m, t)).1 (bo1 o (m, t)).2 b ∧ isum (bo1 o (m, t)).1 = isum m - boX o m ∧ isum (bo1 o (m, t)).2 = isum t - boY o m t := by
  have L := F.len; have ml := F.ml; have tl := F.tl
  have x := qbd F ho; have y := qbe F ho
  have e1 : isum (bo1 o (m, t)).1 = isum m - boX o m := by
    show isum (m.set (m.length - 1) (m.getD (m.length - 1) 0 - boX o m)) = _
    rw [qoj _ _ _ (by omega)]; omega
  have e2 : isum (bo1 o (m, t)).2 = isum t - boY o m t := by
    show isum (t.set (m.length - 1) (t.getD (m.length - 1) 0 - boY o m t)) = _
    rw [qoj _ _ _ (by omega)]; omega
  refine ⟨F.mk' (by show (m.set _ _).length = _; rw [List.length_set]; exact ml) (by show (t.set _ _).length = _; rw [List.length_set]; exact tl) (fun i hi => ?_) (by rw [e1]; have := F.msum; omega), e1, e2⟩
  have a := F.at i
  show 0 ≤ (m.set (m.length - 1) (m.getD (m.length - 1) 0 - boX o m)).getD i 0 ∧ 0 ≤ (t.set (m.length - 1) (t.getD (m.length - 1) 0 - boY o m t)).getD i 0 ∧ (t.set (m.length - 1) (t.getD (m.length - 1) 0 - boY o m t)).getD i 0 ≤ 1000 * (m.set (m.length - 1) (m.getD (m.length - 1) 0 - boX o m)).getD i 0
  rw [qx4 (by omega), qx4 (by omega)]
  by_cases g : m.length - 1 = i
  · rw [if_pos g, if_pos g]; omega
  · rw [if_neg g, if_neg g]; omega
theorem qoa {a c : Int} (ha : 0 ≤ a ∧ a ≤ 10000) (hc : 0 ≤ c ∧ c ≤ 1000) : 0 ≤ a * c ∧ a * c ≤ 1000 * a := by
  have h1 := Int.mul_nonneg ha.1 hc.1
  have h2 : a * c ≤ a * 1000 := Int.mul_le_mul_of_nonneg_left hc.2 ha.1
  omega
theorem qbc (F : StF r l m t b) {a c o : Int} (ha : 0 ≤ a ∧ a ≤ 10000) (hc : 0 ≤ c ∧ c ≤ 1000) (ho : 0 ≤ o ∧ o ≤ 250) : StF r l (boS a c o (m, t)).1.1 (boS a c o (m, t)).1.2 b ∧ Led (m, t) (boS a c o (m, t)).1 (boS a c o (m, t)).2 := by
  obtain ⟨G, e1, e2⟩ := qbb F ho
  have L := F.len; have ml := F.ml; have tl := F.tl
  have x := qbd F ho; have y := (qbe F ho).1; have p := qoa ha hc
  have fa := F.at (m.length - 1)
  unfold boS
  by_cases g : isum (bo1 o (m, t)).1 + a ≤ 10000000
  · rw [if_pos g]
    have gl := G.ml; have gt := G.tl
    have s1 : isum (bo2 a c (bo1 o (m, t))).1 = isum (bo1 o (m, t)).1 + a := by
      show isum ((bo1 o (m, t)).1.set 0 ((bo1 o (m, t)).1.getD 0 0 + a)) = _
      rw [qoj _ _ _ (by omega)]; omega
    have s2 : isum (bo2 a c (bo1 o (m, t))).2 = isum (bo1 o (m, t)).2 + a * c := by
      show isum ((bo1 o (m, t)).2.set 0 ((bo1 o (m, t)).2.getD 0 0 + a * c)) = _
      rw [qoj _ _ _ (by omega)]; omega
    refine ⟨G.mk' (by show (List.set _ _ _).length = _; rw [List.length_set]; exact gl) (by show (List.set _ _ _).length = _; rw [List.length_set]; exact gt) (fun i hi => ?_) (by show isum (bo2 a c (bo1 o (m, t))).1 ≤ _; rw [s1]; exact g), ⟨?_, ?_, ⟨ha.1, by show a ≤ _; omega⟩, ⟨x.1, by show boX o m ≤ _; omega⟩, ⟨p.1, by show a * c ≤ _; omega⟩, ⟨y.1, by show boY o m t ≤ _; omega⟩⟩⟩
    · have q := G.at i
      show 0 ≤ ((bo1 o (m, t)).1.set 0 ((bo1 o (m, t)).1.getD 0 0 + a)).getD i 0 ∧ 0 ≤ ((bo1 o (m, t)).2.set 0 ((bo1 o (m, t)).2.getD 0 0 + a * c)).getD i 0 ∧ ((bo1 o (m, t)).2.set 0 ((bo1 o (m, t)).2.getD 0 0 + a * c)).getD i 0 ≤ 1000 * ((bo1 o (m, t)).1.set 0 ((bo1 o (m, t)).1.getD 0 0 + a)).getD i 0
      rw [qx4 (by omega), qx4 (by omega)]
      by_cases h : 0 = i
      · subst h; rw [if_pos rfl, if_pos rfl]; omega
      · rw [if_neg h, if_neg h]; omega
    · show isum (bo2 a c (bo1 o (m, t))).1 = isum m + a - boX o m; omega
    · show isum (bo2 a c (bo1 o (m, t))).2 = isum t + a * c - boY o m t; omega
  · rw [if_neg g]
    refine ⟨G, ⟨?_, ?_, ⟨Int.le_refl _, by show (0 : Int) ≤ _; omega⟩, ⟨x.1, by show boX o m ≤ _; omega⟩, ⟨Int.le_refl _, by show (0 : Int) ≤ _; omega⟩, ⟨y.1, by show boY o m t ≤ _; omega⟩⟩⟩
    · show isum (bo1 o (m, t)).1 = isum m + 0 - boX o m; omega
    · show isum (bo1 o (m, t)).2 = isum t + 0 - boY o m t; omega
end
def part (a : Int) (l : List Cell) (j : Nat) : Int := a * q0d (qqx l j) / 16
theorem quk {a : Int} (ha : 0 ≤ a ∧ a ≤ 10000) (l : List Cell) (j : Nat) : 0 ≤ part a l j ∧ part a l j ≤ a := by
  have w := q0f (qqx l j)
  unfold part
  have h1 := Int.mul_nonneg ha.1 w.1
  have h2 : a * q0d (qqx l j) ≤ a * 16 := Int.mul_le_mul_of_nonneg_left w.2 ha.1
  omega
def raS (a : Int) (l : List Cell) (s : S2) : S2 × Ld := if isum s.1 + qy4 (part a l) l.length ≤ 10000000 then ((tab l.length (fun j => s.1.getD j 0 + part a l j), s.2), ⟨qy4 (part a l) l.length, 0, 0, 0⟩) else (s, ⟨0, 0, 0, 0⟩)
def soX (a : Int) (l : List Cell) (m : List Int) (j : Nat) : Int := min (m.getD j 0) (part a l j)
def soY (a : Int) (l : List Cell) (m t : List Int) (j : Nat) : Int := qx7 (t.getD j 0) (soX a l m j) (m.getD j 0)
def soS (a : Int) (l : List Cell) (s : S2) : S2 × Ld := ((tab l.length (fun j => s.1.getD j 0 - soX a l s.1 j), tab l.length (fun j => s.2.getD j 0 - soY a l s.1 s.2 j)), ⟨0, qy4 (soX a l s.1) l.length, 0, qy4 (soY a l s.1 s.2) l.length⟩)
def deX (a : Int) (t : List Int) (j : Nat) : Int := t.getD j 0 * a / 1000
def deS (a : Int) (l : List Cell) (s : S2) : S2 × Ld := ((s.1, tab l.length (fun j => s.2.getD j 0 - deX a s.2 j)), ⟨0, 0, 0, qy4 (deX a s.2) l.length⟩)
section
variable {r : Int} {l : List Cell} {m t b : List Int}
theorem qul {a : Int} (ha : 0 ≤ a ∧ a ≤ 10000) (l : List Cell) : ∀ n : Nat, 0 ≤ qy4 (part a l) n ∧ qy4 (part a l) n ≤ 10000 * n
  | 0 => by simp [qy4]
  | n + 1 => by have := qul ha l n; have := quk ha l n; simp only [qy4]; omega
theorem qux (F : StF r l m t b) {a : Int} (ha : 0 ≤ a ∧ a ≤ 10000) : StF r l (raS a l (m, t)).1.1 (raS a l (m, t)).1.2 b ∧ Led (m, t) (raS a l (m, t)).1 (raS a l (m, t)).2 := by
  have L := F.len; have ml := F.ml; have tl := F.tl
  have p := qul ha l l.length
  unfold raS
  by_cases g : isum m + qy4 (part a l) l.length ≤ 10000000
  · rw [if_pos g]
    have e1 : isum (tab l.length (fun j => m.getD j 0 + part a l j)) = isum m + qy4 (part a l) l.length := by
      rw [qol, qy5, qok m, ml]
    refine ⟨F.mk' (qzf _ _) tl (fun i hi => ?_) (by show isum (tab l.length (fun j => m.getD j 0 + part a l j)) ≤ 10000000; omega), ⟨?_, ?_, ⟨p.1, by show qy4 _ _ ≤ _; have := F.msum; omega⟩, ⟨Int.le_refl _, by show (0 : Int) ≤ _; omega⟩, ⟨Int.le_refl _, by show (0 : Int) ≤ _; omega⟩, ⟨Int.le_refl _, by show (0 : Int) ≤ _; omega⟩⟩⟩
    · have a1 := F.at i; have a2 := quk ha l i
      show 0 ≤ (tab l.length (fun j => m.getD j 0 + part a l j)).getD i 0 ∧ 0 ≤ t.getD i 0 ∧ t.getD i 0 ≤ 1000 * (tab l.length (fun j => m.getD j 0 + part a l j)).getD i 0
      rw [qze hi]; omega
    · show isum (tab l.length (fun j => m.getD j 0 + part a l j)) = isum m + qy4 (part a l) l.length - 0; omega
    · show isum t = isum t + 0 - 0; omega
  · rw [if_neg g]
    refine ⟨F, ⟨?_, ?_, ⟨Int.le_refl _, by show (0 : Int) ≤ _; omega⟩, ⟨Int.le_refl _, by show (0 : Int) ≤ _; omega⟩, ⟨Int.le_refl _, by show (0 : Int) ≤ _; omega⟩, ⟨Int.le_refl _, by show (0 : Int) ≤ _; omega⟩⟩⟩
    · show isum m = isum m + 0 - 0; omega
    · show isum t = isum t + 0 - 0; omega
theorem qyh (F : StF r l m t b) {a : Int} (ha : 0 ≤ a ∧ a ≤ 10000) (j : Nat) : 0 ≤ soX a l m j ∧ soX a l m j ≤ m.getD j 0 := by
  have a1 := F.at j; have a2 := quk ha l j
  unfold soX; omega
theorem qyi (F : StF r l m t b) {a : Int} (ha : 0 ≤ a ∧ a ≤ 10000) (j : Nat) : (0 ≤ soY a l m t j ∧ soY a l m t j ≤ t.getD j 0) ∧ t.getD j 0 - soY a l m t j ≤ 1000 * (m.getD j 0 - soX a l m j) := by
  have a1 := F.at j
  exact qug ⟨a1.1, a1.2.1⟩ a1.2.2 (qyh F ha j)
theorem qyj (F : StF r l m t b) {a : Int} (ha : 0 ≤ a ∧ a ≤ 10000) (n : Nat) : (0 ≤ qy4 (soX a l m) n ∧ qy4 (soX a l m) n ≤ qy4 (fun j => m.getD j 0) n) ∧ 0 ≤ qy4 (soY a l m t) n ∧ qy4 (soY a l m t) n ≤ qy4 (fun j => t.getD j 0) n :=
  ⟨⟨qy8 n fun j _ => (qyh F ha j).1, qy6 n fun j _ => (qyh F ha j).2⟩, qy8 n fun j _ => (qyi F ha j).1.1, qy6 n fun j _ => (qyi F ha j).1.2⟩
theorem qyg (F : StF r l m t b) {a : Int} (ha : 0 ≤ a ∧ a ≤ 10000) : StF r l (soS a l (m, t)).1.1 (soS a l (m, t)).1.2 b ∧ Led (m, t) (soS a l (m, t)).1 (soS a l (m, t)).2 := by
  have L := F.len; have ml := F.ml; have tl := F.tl
  have p := qyj F ha l.length
  have ms := F.msum; have ts := F.tle
  have e1 : isum (tab l.length (fun j => m.getD j 0 - soX a l m j)) = isum m - qy4 (soX a l m) l.length := by rw [qol, qy9, qok m, ml]
  have e2 : isum (tab l.length (fun j => t.getD j 0 - soY a l m t j)) = isum t - qy4 (soY a l m t) l.length := by rw [qol, qy9, qok t, tl]
  have q1 := qok m; have q2 := qok t
  rw [ml] at q1; rw [tl] at q2
  refine ⟨F.mk' (qzf _ _) (qzf _ _) (fun i hi => ?_) (by show isum (tab l.length (fun j => m.getD j 0 - soX a l m j)) ≤ 10000000; omega), ⟨?_, ?_, ⟨Int.le_refl _, by show (0 : Int) ≤ _; omega⟩, ⟨p.1.1, by show qy4 (soX a l m) _ ≤ _; omega⟩, ⟨Int.le_refl _, by show (0 : Int) ≤ _; omega⟩, ⟨p.2.1, by show qy4 (soY a l m t) _ ≤ _; omega⟩⟩⟩
  · have a1 := F.at i; have a2 := qyh F ha i; have a3 := qyi F ha i
    show 0 ≤ (tab l.length (fun j => m.getD j 0 - soX a l m j)).getD i 0 ∧ 0 ≤ (tab l.length (fun j => t.getD j 0 - soY a l m t j)).getD i 0 ∧ (tab l.length (fun j => t.getD j 0 - soY a l m t j)).getD i 0 ≤ 1000 * (tab l.length (fun j => m.getD j 0 - soX a l m j)).getD i 0
    rw [qze hi, qze hi]; omega
  · show isum (tab l.length (fun j => m.getD j 0 - soX a l m j)) = isum m + 0 - qy4 (soX a l m) l.length; omega
  · show isum (tab l.length (fun j => t.getD j 0 - soY a l m t j)) = isum t + 0 - qy4 (soY a l m t) l.length; omega
theorem qhx (F : StF r l m t b) {a : Int} (ha : 0 ≤ a ∧ a ≤ 1000) (j : Nat) : 0 ≤ deX a t j ∧ deX a t j ≤ t.getD j 0 := by
  have a1 := F.at j
  unfold deX
  have h1 := Int.mul_nonneg a1.2.2.1 ha.1
  have h2 : t.getD j 0 * a ≤ t.getD j 0 * 1000 := Int.mul_le_mul_of_nonneg_left ha.2 a1.2.2.1
  omega
theorem qhw (F : StF r l m t b) {a : Int} (ha : 0 ≤ a ∧ a ≤ 1000) : StF r l (deS a l (m, t)).1.1 (deS a l (m, t)).1.2 b ∧ Led (m, t) (deS a l (m, t)).1 (deS a l (m, t)).2 := by
  have L := F.len; have ml := F.ml; have tl := F.tl
  have p1 := qy8 l.length fun j _ => (qhx F ha j).1
  have p2 := qy6 l.length fun j _ => (qhx F ha j).2
  have ts := F.tle
  have e2 : isum (tab l.length (fun j => t.getD j 0 - deX a t j)) = isum t - qy4 (deX a t) l.length := by rw [qol, qy9, qok t, tl]
  have q2 := qok t
  rw [tl] at q2
  refine ⟨F.mk' ml (qzf _ _) (fun i hi => ?_) F.sum, ⟨?_, ?_, ⟨Int.le_refl _, by show (0 : Int) ≤ _; omega⟩, ⟨Int.le_refl _, by show (0 : Int) ≤ _; omega⟩, ⟨Int.le_refl _, by show (0 : Int) ≤ _; omega⟩, ⟨p1, by show qy4 (deX a t) _ ≤ _; omega⟩⟩⟩
  · have a1 := F.at i; have a2 := qhx F ha i
    show 0 ≤ m.getD i 0 ∧ 0 ≤ (tab l.length (fun j => t.getD j 0 - deX a t j)).getD i 0 ∧ (tab l.length (fun j => t.getD j 0 - deX a t j)).getD i 0 ≤ 1000 * m.getD i 0
    rw [qze hi]; omega
  · show isum m = isum m + 0 - 0; omega
  · show isum (tab l.length (fun j => t.getD j 0 - deX a t j)) = isum t + 0 - qy4 (deX a t) l.length; omega
end
def tick (l : List Cell) (b : List Int) (i : Nat) (s : S2) : S2 := (tab l.length (stM (i : Int) l s.1 b), tab l.length (stT (i : Int) l s.1 s.2 b))
def qzp (l : List Cell) (b : List Int) : Nat → Nat → S2 → S2
  | 0, i, s => s
  | n + 1, i, s => qzp l b n (i + 1) (tick l b i s)
theorem qzq {r : Int} {l : List Cell} {b : List Int} : ∀ (n i : Nat) (s : S2), StF r l s.1 s.2 b → StF r l (qzp l b n i s).1 (qzp l b n i s).2 b ∧ isum (qzp l b n i s).1 = isum s.1 ∧ isum (qzp l b n i s).2 = isum s.2
  | 0, i, s, F => ⟨F, rfl, rfl⟩
  | n + 1, i, s, F => by
    have h := qzq n (i + 1) (tick l b i s) (qyz F i)
    exact ⟨h.1, h.2.1.trans (qy0 F i), h.2.2.trans (qy1 F i)⟩
end Go.Proofs.YtoldpdhhfmlckaaGreat
end
section
namespace Go.Proofs.YtoldpdhhfmlckaaGreat
open Go.Ev
structure StV (r : Int) (s : S3) (b : List Int) (M T : Int) : Prop where
  u : StU r s b
  m : isum s.2.1 = M
  t : isum s.2.2 = T
theorem rf_V {r : Int} {s : S3} {b : List Int} {M T : Int} (V : StV r s b M T) {i : Nat} (hi : i < s.1.length) (hl : qqx s.1 i < 4) : StV r (rfS s i) b M T := by
  have ml := V.u.ml; have tl := V.u.tl
  exact ⟨rf_U V.u hi hl, by show isum (rfM s.2.1 i) = M; rw [qvl (by omega) (V.u.at i).1]; exact V.m, by show isum (rfT s.2.2 s.2.1 i) = T; rw [qvn (by omega)]; exact V.t⟩
theorem cm_V {r : Int} {s : S3} {b : List Int} {M T : Int} (V : StV r s b M T) {i : Nat} (hi : i + 1 < s.1.length) (hs : sib (s.1.getD i zz3) (s.1.getD (i + 1) zz3) = true) : StV r (cmS s i) b M T := by
  have ml := V.u.ml; have tl := V.u.tl
  exact ⟨cm_U V.u hi hs, by show isum (cmM s.2.1 i) = M; rw [qhf (by omega)]; exact V.m, by show isum (cmM s.2.2 i) = T; rw [qhf (by omega)]; exact V.t⟩
theorem qq5 {r : Int} {b : List Int} {M T : Int} : ∀ (n : Nat) (s : S3), StV r s b M T → 129 ≤ n + s.1.length → StV r (lvS n s) b M T
  | 0, s, V, hn => V
  | n + 1, s, V, hn => by
    unfold lvS
    by_cases g : unb s.1 < 0
    · rw [if_pos g]; exact V
    · rw [if_neg g]
      obtain ⟨j, e, h1, h2⟩ := qz1 (by omega : 0 ≤ unb s.1)
      have c := qhh V.u.mesh h1 h2
      rw [e, Int.toNat_natCast]
      exact qq5 n _ (rf_V V c.1 c.2) (by show 129 ≤ n + (qym s.1 _).length; rw [qyn c.1]; omega)
theorem qyl {r : Int} {b : List Int} {M T : Int} (w : List Int) (l0 : List Cell) (hw : ∀ j, w.getD j 0 = 1 → qqx l0 j < 4) : ∀ (n : Nat) (s : S3), StV r s b M T → n ≤ s.1.length → (∀ j, j < n → s.1.getD j zz3 = l0.getD j zz3) → StV r (spS w n s) b M T
  | 0, s, V, hn, he => V
  | n + 1, s, V, hn, he => by
    unfold spS
    by_cases g : w.getD n 0 = 1
    · rw [if_pos g]
      have hl : qqx s.1 n < 4 := by have := hw n g; unfold qqx at *; rw [he n (by omega)]; exact this
      exact qyl w l0 hw n _ (rf_V V (by omega) hl) (by show n ≤ (qym s.1 n).length; rw [qyn (by omega)]; omega) fun j hj => by
        show (qym s.1 n).getD j zz3 = _
        rw [qyo (by omega) hj]; exact he j (by omega)
    · rw [if_neg g]
      exact qyl w l0 hw n s V (by omega) fun j hj => he j (by omega)
theorem qtv {r : Int} {b : List Int} {M T : Int} (P : Cell → Bool) : ∀ (n i : Nat) (s : S3), StV r s b M T → StV r (mgS P n i s) b M T
  | 0, i, s, V => V
  | n + 1, i, s, V => by
    unfold mgS
    by_cases g : i + 1 < s.1.length
    · rw [if_pos g]
      by_cases h : (P (s.1.getD i zz3) && (P (s.1.getD (i + 1) zz3) && mayC s.1 i)) = true
      · rw [if_pos h]
        simp only [Bool.and_eq_true, mayC] at h
        exact qtv P n (i + 1) _ (cm_V V g h.2.2.1)
      · rw [if_neg h]; exact qtv P n (i + 1) s V
    · rw [if_neg g]; exact V
def ada (hi lo : Int) (b : List Int) (s : S3) : S3 := adS (tab s.1.length (wsh s.1 s.2.1 b hi lo)) s
theorem qav {r : Int} {s : S3} {b : List Int} (F : StF r s.1 s.2.1 s.2.2 b) (hi lo : Int) : StF r (ada hi lo b s).1 (ada hi lo b s).2.1 (ada hi lo b s).2.2 b ∧ isum (ada hi lo b s).2.1 = isum s.2.1 ∧ isum (ada hi lo b s).2.2 = isum s.2.2 := by
  have V := qyl (M := isum s.2.1) (T := isum s.2.2) (tab s.1.length (wsh s.1 s.2.1 b hi lo)) s.1 q0n s.1.length s ⟨F.toU, rfl, rfl⟩ (Nat.le_refl _) (fun j hj => rfl)
  have W := qq5 128 _ V (by have := V.u.len; omega)
  have X := qtv (Pw (tab s.1.length (wsh s.1 s.2.1 b hi lo)) s.1) 128 0 _ W
  exact ⟨ad_U F hi lo, X.m, X.t⟩
def flow (p : Pl) (l : List Cell) (b : List Int) (s : S2) : S2 × Ld :=
  let s1 := boS p.bi p.bs p.bo s
  let s2 := raS p.rain l s1.1
  let s3 := soS p.loss l s2.1
  let s4 := deS p.dec l s3.1
  (qzp l b 16 0 s4.1, ((s1.2.add s2.2).add s3.2).add s4.2)
def mac (p : Pl) (b : List Int) (k : Int) (s : S3) : S3 × Ld :=
  let x := flow p s.1 b s.2
  (if 0 < p.every ∧ (k + 1) % p.every = 0 then ada p.high p.low b (s.1, x.1) else (s.1, x.1), x.2)
structure PlF (p : Pl) : Prop where
  bi : 0 ≤ p.bi ∧ p.bi ≤ 10000
  bs : 0 ≤ p.bs ∧ p.bs ≤ 1000
  bo : 0 ≤ p.bo ∧ p.bo ≤ 250
  rain : 0 ≤ p.rain ∧ p.rain ≤ 10000
  loss : 0 ≤ p.loss ∧ p.loss ≤ 10000
  dec : 0 ≤ p.dec ∧ p.dec ≤ 1000
  high : 0 ≤ p.high ∧ p.high ≤ 1000000
  low : 0 ≤ p.low ∧ p.low ≤ 1000000
  every : 0 ≤ p.every ∧ p.every ≤ 100
structure Led4 (s s' : S2) (l : Ld) : Prop where
  m : isum s'.1 = isum s.1 + l.mi - l.mo
  t : isum s'.2 = isum s.2 + l.ti - l.ou
  mi : 0 ≤ l.mi ∧ l.mi ≤ 40000000
  mo : 0 ≤ l.mo ∧ l.mo ≤ 40000000
  ti : 0 ≤ l.ti ∧ l.ti ≤ 40000000000
  ou : 0 ≤ l.ou ∧ l.ou ≤ 40000000000
theorem Led4.comb {s s1 s2 s3 s4 s5 : S2} {l1 l2 l3 l4 : Ld} (h1 : Led s s1 l1) (h2 : Led s1 s2 l2) (h3 : Led s2 s3 l3) (h4 : Led s3 s4 l4) (e1 : isum s5.1 = isum s4.1) (e2 : isum s5.2 = isum s4.2) : Led4 s s5 (((l1.add l2).add l3).add l4) := by
  have a1 := h1.m; have a2 := h2.m; have a3 := h3.m; have a4 := h4.m
  have b1 := h1.t; have b2 := h2.t; have b3 := h3.t; have b4 := h4.t
  have c1 := h1.mi; have c2 := h2.mi; have c3 := h3.mi; have c4 := h4.mi
  have d1 := h1.mo; have d2 := h2.mo; have d3 := h3.mo; have d4 := h4.mo
  have f1 := h1.ti; have f2 := h2.ti; have f3 := h3.ti; have f4 := h4.ti
  have g1 := h1.ou; have g2 := h2.ou; have g3 := h3.ou; have g4 := h4.ou
  refine ⟨?_, ?_, ?_, ?_, ?_, ?_⟩
  · show isum s5.1 = isum s.1 + (l1.mi + l2.mi + l3.mi + l4.mi) - (l1.mo + l2.mo + l3.mo + l4.mo); omega
  · show isum s5.2 = isum s.2 + (l1.ti + l2.ti + l3.ti + l4.ti) - (l1.ou + l2.ou + l3.ou + l4.ou); omega
  · show 0 ≤ l1.mi + l2.mi + l3.mi + l4.mi ∧ l1.mi + l2.mi + l3.mi + l4.mi ≤ 40000000; omega
  · show 0 ≤ l1.mo + l2.mo + l3.mo + l4.mo ∧ l1.mo + l2.mo + l3.mo + l4.mo ≤ 40000000; omega
  · show 0 ≤ l1.ti + l2.ti + l3.ti + l4.ti ∧ l1.ti + l2.ti + l3.ti + l4.ti ≤ 40000000000; omega
  · show 0 ≤ l1.ou + l2.ou + l3.ou + l4.ou ∧ l1.ou + l2.ou + l3.ou + l4.ou ≤ 40000000000; omega
theorem qnq {r : Int} {l : List Cell} {b : List Int} {s : S2} (F : StF r l s.1 s.2 b) {p : Pl} (P : PlF p) : StF r l (flow p l b s).1.1 (flow p l b s).1.2 b ∧ Led4 s (flow p l b s).1 (flow p l b s).2 := by
  have h1 := qbc F P.bi P.bs P.bo
  have h2 := qux h1.1 P.rain
  have h3 := qyg h2.1 P.loss
  have h4 := qhw h3.1 P.dec
  have h5 := qzq 16 0 _ h4.1
  exact ⟨h5.1, Led4.comb h1.2 h2.2 h3.2 h4.2 h5.2.1 h5.2.2⟩
theorem qs9 {r : Int} {b : List Int} {s : S3} (F : StF r s.1 s.2.1 s.2.2 b) {p : Pl} (P : PlF p) (k : Int) : StF r (mac p b k s).1.1 (mac p b k s).1.2.1 (mac p b k s).1.2.2 b ∧ Led4 s.2 (mac p b k s).1.2 (mac p b k s).2 := by
  have h := qnq (s := s.2) F P
  unfold mac
  by_cases g : 0 < p.every ∧ (k + 1) % p.every = 0
  · simp only [if_pos g]
    have a := qav (s := (s.1, (flow p s.1 b s.2).1)) h.1 p.high p.low
    exact ⟨a.1, ⟨a.2.1.trans h.2.m, a.2.2.trans h.2.t, h.2.mi, h.2.mo, h.2.ti, h.2.ou⟩⟩
  · simp only [if_neg g]
    exact h
end Go.Proofs.YtoldpdhhfmlckaaGreat
end
section
namespace Go.Proofs.YtoldpdhhfmlckaaGreat
open Go.Ev
theorem qju (k : Nat) (a0 : Int) (a1z : Bool) (a1 : List (Int × Int × Int)) (a2z : Bool) (a2 : List Int) (a3z : Bool) (a3 : List Int) (a4z : Bool) (a4 : List Int) (b c d0 d1 d2 d3 : Int) : go (k + 1) impl_State_remove [(.ptr true [(.int .i64 (a0)), (.arr true (a1z) (.r3 (a1))), (.arr true (a2z) (.ints .i64 (a2))), (.arr true (a3z) (.ints .i64 (a3))), (.arr true (a4z) (.ints .i64 (a4)))]), (.int .i64 (b)), (.int .i64 (c)), (.ptr true [(.int .i64 (d0)), (.int .i64 (d1)), (.int .i64 (d2)), (.int .i64 (d3))])] =
 cond (decide ((0 : Int) ≤ b) && decide (b < nI (List.length a3)))
 (cond (decide ((0 : Int) ≤ b) && decide (b < nI (List.length a2)))
 ((go k impl_ShareOut [(.int .i64 (List.getD a3 (Int.toNat b) (0 : Int))), (.int .i64 (c)), (.int .i64 (List.getD a2 (Int.toNat b) (0 : Int)))]).bind fun r0 =>
 cond (decide ((0 : Int) ≤ b) && decide (b < nI (List.length a2)))
 (cond (decide ((0 : Int) ≤ b) && decide (b < nI (List.length a2)))
 (cond (decide ((0 : Int) ≤ b) && decide (b < nI (List.length a3)))
 (cond (decide ((0 : Int) ≤ b) && decide (b < nI (List.length a3)))
 (some [(.ptr true [(.int .i64 (a0)), (.arr true (a1z) (.r3 (a1))), (.arr true (a2z) (.ints .i64 (List.set a2 (Int.toNat b) (IntKind.wrap .i64 (List.getD a2 (Int.toNat b) (0 : Int) - c))))), (.arr true (a3z) (.ints .i64 (List.set a3 (Int.toNat b) (IntKind.wrap .i64 (List.getD a3 (Int.toNat b) (0 : Int) - D.toInt (nth r0 0)))))), (.arr true (a4z) (.ints .i64 (a4)))]), (.ptr true [(.int .i64 (d0)), (.int .i64 (IntKind.wrap .i64 (d1 + c))), (.int .i64 (d2)), (.int .i64 (IntKind.wrap .i64 (d3 + D.toInt (nth r0 0))))])])
 (none))
 (none))
 (none))
 (none))
 (none))
 (none) := by kernel_rfl
theorem qjh (k : Nat) (a0 : Int) (a1z : Bool) (a1 : List (Int × Int × Int)) (a2z : Bool) (a2 : List Int) (a3z : Bool) (a3 : List Int) (a4z : Bool) (a4 : List Int) (b0 b1 b2 : Int) : go (k + 1) impl_State_border [(.ptr true [(.int .i64 (a0)), (.arr true (a1z) (.r3 (a1))), (.arr true (a2z) (.ints .i64 (a2))), (.arr true (a3z) (.ints .i64 (a3))), (.arr true (a4z) (.ints .i64 (a4)))]), (.agg [(.int .i64 (b0)), (.int .i64 (b1)), (.int .i64 (b2))])] =
 cond (decide ((0 : Int) ≤ IntKind.wrap .i64 (nI (List.length a2) - (1 : Int))) && decide (IntKind.wrap .i64 (nI (List.length a2) - (1 : Int)) < nI (List.length a2)))
 ((go k impl_State_remove [(.ptr true [(.int .i64 (a0)), (.arr true (a1z) (.r3 (a1))), (.arr true (a2z) (.ints .i64 (a2))), (.arr true (a3z) (.ints .i64 (a3))), (.arr true (a4z) (.ints .i64 (a4)))]), (.int .i64 (IntKind.wrap .i64 (nI (List.length a2) - (1 : Int)))), (.int .i64 (IntKind.wrap .i64 (Int.tdiv (IntKind.wrap .i64 (List.getD a2 (Int.toNat (IntKind.wrap .i64 (nI (List.length a2) - (1 : Int)))) (0 : Int) * b2)) (1000 : Int)))), (.ptr true [(.int .i64 (0 : Int)), (.int .i64 (0 : Int)), (.int .i64 (0 : Int)), (.int .i64 (0 : Int))])]).bind fun r0 =>
 (go k impl_sum [(.arr false (D.nil (D.cell 2 (nth r0 0))) (.ints .i64 (D.ints (D.cell 2 (nth r0 0)))))]).bind fun r1 =>
 cond (decide (IntKind.wrap .i64 (D.toInt (nth r1 0) + b0) ≤ (10000000 : Int)))
 (cond (decide ((0 : Int) ≤ (0 : Int)) && decide ((0 : Int) < nI (List.length (D.ints (D.cell 2 (nth r0 0))))))
 (cond (decide ((0 : Int) ≤ (0 : Int)) && decide ((0 : Int) < nI (List.length (D.ints (D.cell 2 (nth r0 0))))))
 (cond (decide ((0 : Int) ≤ (0 : Int)) && decide ((0 : Int) < nI (List.length (D.ints (D.cell 3 (nth r0 0))))))
 (cond (decide ((0 : Int) ≤ (0 : Int)) && decide ((0 : Int) < nI (List.length (D.ints (D.cell 3 (nth r0 0))))))
 (some [(.agg [(.int .i64 (b0)), (.int .i64 (D.toInt (D.cell 1 (nth r0 1)))), (.int .i64 (IntKind.wrap .i64 (b0 * b1))), (.int .i64 (D.toInt (D.cell 3 (nth r0 1))))]), (.ptr true [(.int .i64 (D.toInt (D.cell 0 (nth r0 0)))), (.arr true (D.nil (D.cell 1 (nth r0 0))) (.r3 (D.r3 (D.cell 1 (nth r0 0))))), (.arr true (D.nil (D.cell 2 (nth r0 0))) (.ints .i64 (List.set (D.ints (D.cell 2 (nth r0 0))) (Int.toNat (0 : Int)) (IntKind.wrap .i64 (List.getD (D.ints (D.cell 2 (nth r0 0))) (Int.toNat (0 : Int)) (0 : Int) + b0))))), (.arr true (D.nil (D.cell 3 (nth r0 0))) (.ints .i64 (List.set (D.ints (D.cell 3 (nth r0 0))) (Int.toNat (0 : Int)) (IntKind.wrap .i64 (List.getD (D.ints (D.cell 3 (nth r0 0))) (Int.toNat (0 : Int)) (0 : Int) + IntKind.wrap .i64 (b0 * b1)))))), (.arr true (D.nil (D.cell 4 (nth r0 0))) (.ints .i64 (D.ints (D.cell 4 (nth r0 0)))))])])
 (none))
 (none))
 (none))
 (none))
 (some [(.agg [(.int .i64 (D.toInt (D.cell 0 (nth r0 1)))), (.int .i64 (D.toInt (D.cell 1 (nth r0 1)))), (.int .i64 (D.toInt (D.cell 2 (nth r0 1)))), (.int .i64 (D.toInt (D.cell 3 (nth r0 1))))]), (.ptr true [(.int .i64 (D.toInt (D.cell 0 (nth r0 0)))), (.arr true (D.nil (D.cell 1 (nth r0 0))) (.r3 (D.r3 (D.cell 1 (nth r0 0))))), (.arr true (D.nil (D.cell 2 (nth r0 0))) (.ints .i64 (D.ints (D.cell 2 (nth r0 0))))), (.arr true (D.nil (D.cell 3 (nth r0 0))) (.ints .i64 (D.ints (D.cell 3 (nth r0 0))))), (.arr true (D.nil (D.cell 4 (nth r0 0))) (.ints .i64 (D.ints (D.cell 4 (nth r0 0)))))])]))
 (none) := by kernel_rfl
theorem qjr (k : Nat) (a0 : Int) (a1z : Bool) (a1 : List (Int × Int × Int)) (a2z : Bool) (a2 : List Int) (a3z : Bool) (a3 : List Int) (a4z : Bool) (a4 : List Int) (b c : Int) : go (k + 1) impl_State_partOf [(.agg [(.int .i64 (a0)), (.arr false (a1z) (.r3 (a1))), (.arr false (a2z) (.ints .i64 (a2))), (.arr false (a3z) (.ints .i64 (a3))), (.arr false (a4z) (.ints .i64 (a4)))]), (.int .i64 (b)), (.int .i64 (c))] =
 cond (decide ((0 : Int) ≤ c) && decide (c < nI (List.length a1)))
 ((go k impl_WidthOf [(.int .i64 (Prod.fst (Prod.snd (List.getD a1 (Int.toNat c) zz3))))]).bind fun r0 =>
 some [(.int .i64 (IntKind.wrap .i64 (Int.tdiv (IntKind.wrap .i64 (b * D.toInt (nth r0 0))) (16 : Int))))])
 (none) := by kernel_rfl
def qwj (x0 x1 x2 x3 : Int) (z4 : Bool) (l5 : List (Int × Int × Int)) (z6 : Bool) (l7 : List Int) (z8 : Bool) (l9 : List Int) (z10 : Bool) (l11 : List Int) (x12 x13 x14 x15 x16 : Int) : St := ⟨fill 60 [(0, (.ptr 4 (0) (0))), (1, (.int .i64 (x0))), (4, (.ptr 5 (0) (0))), (5, (.int .i64 (x1))), (38, (.int .i64 (x2))), (39, (.int .i64 (x3)))], [(.ptr 4 (0) (0))], [(.arr true (z4) (.r3 (l5))), (.arr true (z6) (.ints .i64 (l7))), (.arr true (z8) (.ints .i64 (l9))), (.arr true (z10) (.ints .i64 (l11))), (.box true [(.int .i64 (x12)), (.sl 0 none), (.sl 1 none), (.sl 2 none), (.sl 3 none)]), (.box true [(.int .i64 (x13)), (.int .i64 (x14)), (.int .i64 (x15)), (.int .i64 (x16))])]⟩
def qwk (x0 x1 x2 x3 : Int) (z4 : Bool) (l5 : List (Int × Int × Int)) (z6 : Bool) (l7 : List Int) (z8 : Bool) (l9 : List Int) (z10 : Bool) (l11 : List Int) (x12 x13 x14 x15 x16 : Int) : St := ⟨fill 60 [(0, (.ptr 4 (0) (0))), (1, (.int .i64 (x0))), (4, (.ptr 5 (0) (0))), (5, (.int .i64 (x1))), (12, (.int .i64 (x2))), (13, (.int .i64 (x3)))], [(.ptr 4 (0) (0))], [(.arr true (z4) (.r3 (l5))), (.arr true (z6) (.ints .i64 (l7))), (.arr true (z8) (.ints .i64 (l9))), (.arr true (z10) (.ints .i64 (l11))), (.box true [(.int .i64 (x12)), (.sl 0 none), (.sl 1 none), (.sl 2 none), (.sl 3 none)]), (.box true [(.int .i64 (x13)), (.int .i64 (x14)), (.int .i64 (x15)), (.int .i64 (x16))])]⟩
theorem qjs (k : Nat) (a0 : Int) (a1z : Bool) (a1 : List (Int × Int × Int)) (a2z : Bool) (a2 : List Int) (a3z : Bool) (a3 : List Int) (a4z : Bool) (a4 : List Int) (b : Int) : go (k + 1) impl_State_rain [(.ptr true [(.int .i64 (a0)), (.arr true (a1z) (.r3 (a1))), (.arr true (a2z) (.ints .i64 (a2))), (.arr true (a3z) (.ints .i64 (a3))), (.arr true (a4z) (.ints .i64 (a4)))]), (.int .i64 (b))] =
 lp k impl_State_rain [(.ptr true [(.int .i64 (a0)), (.arr true (a1z) (.r3 (a1))), (.arr true (a2z) (.ints .i64 (a2))), (.arr true (a3z) (.ints .i64 (a3))), (.arr true (a4z) (.ints .i64 (a4)))])] [] 3 k (qwk b (0 : Int) (nI (List.length a2)) (0 : Int) a1z a1 a2z a2 a3z a3 a4z a4 a0 (0 : Int) (0 : Int) (0 : Int) (0 : Int)) := by kernel_rfl
theorem qo9 (k n : Nat) (fu : List (Nat × Nat)) (a0 : Int) (a1z : Bool) (a1 : List (Int × Int × Int)) (a2z : Bool) (a2 : List Int) (a3z : Bool) (a3 : List Int) (a4z : Bool) (a4 : List Int) (x0 x1 x2 x3 : Int) (z4 : Bool) (l5 : List (Int × Int × Int)) (z6 : Bool) (l7 : List Int) (z8 : Bool) (l9 : List Int) (z10 : Bool) (l11 : List Int) (x12 x13 x14 x15 x16 : Int) : lp k impl_State_rain [(.ptr true [(.int .i64 (a0)), (.arr true (a1z) (.r3 (a1))), (.arr true (a2z) (.ints .i64 (a2))), (.arr true (a3z) (.ints .i64 (a3))), (.arr true (a4z) (.ints .i64 (a4)))])] fu 10 (n + 1) (qwj x0 x1 x2 x3 z4 l5 z6 l7 z8 l9 z10 l11 x12 x13 x14 x15 x16) =
 cond (decide (x3 < x2))
 (cond (decide ((0 : Int) ≤ x3) && decide (x3 < nI (List.length l7)))
 ((go k impl_State_partOf [(.agg [(.int .i64 (x12)), (.arr false (z4) (.r3 (l5))), (.arr false (z6) (.ints .i64 (l7))), (.arr false (z8) (.ints .i64 (l9))), (.arr false (z10) (.ints .i64 (l11)))]), (.int .i64 (x0)), (.int .i64 (x3))]).bind fun r0 =>
 cond (decide ((0 : Int) ≤ x3) && decide (x3 < nI (List.length l7)))
 (lp k impl_State_rain [(.ptr true [(.int .i64 (a0)), (.arr true (a1z) (.r3 (a1))), (.arr true (a2z) (.ints .i64 (a2))), (.arr true (a3z) (.ints .i64 (a3))), (.arr true (a4z) (.ints .i64 (a4)))])] fu 10 n (qwj x0 x1 x2 (IntKind.wrap .i64 (x3 + (1 : Int))) z4 l5 z6 (List.set l7 (Int.toNat x3) (IntKind.wrap .i64 (List.getD l7 (Int.toNat x3) (0 : Int) + D.toInt (nth r0 0)))) z8 l9 z10 l11 x12 x13 x14 x15 x16))
 (none))
 (none))
 (some [(.agg [(.int .i64 (x1)), (.int .i64 (0 : Int)), (.int .i64 (0 : Int)), (.int .i64 (0 : Int))]), (.ptr true [(.int .i64 (x12)), (.arr true (z4) (.r3 (l5))), (.arr true (z6) (.ints .i64 (l7))), (.arr true (z8) (.ints .i64 (l9))), (.arr true (z10) (.ints .i64 (l11)))])]) := by kernel_rfl
theorem qpa (k n : Nat) (fu : List (Nat × Nat)) (a0 : Int) (a1z : Bool) (a1 : List (Int × Int × Int)) (a2z : Bool) (a2 : List Int) (a3z : Bool) (a3 : List Int) (a4z : Bool) (a4 : List Int) (x0 x1 x2 x3 : Int) (z4 : Bool) (l5 : List (Int × Int × Int)) (z6 : Bool) (l7 : List Int) (z8 : Bool) (l9 : List Int) (z10 : Bool) (l11 : List Int) (x12 x13 x14 x15 x16 : Int) : lp k impl_State_rain [(.ptr true [(.int .i64 (a0)), (.arr true (a1z) (.r3 (a1))), (.arr true (a2z) (.ints .i64 (a2))), (.arr true (a3z) (.ints .i64 (a3))), (.arr true (a4z) (.ints .i64 (a4)))])] fu 3 (n + 1) (qwk x0 x1 x2 x3 z4 l5 z6 l7 z8 l9 z10 l11 x12 x13 x14 x15 x16) =
 cond (decide (x3 < x2))
 ((go k impl_State_partOf [(.agg [(.int .i64 (x12)), (.arr false (z4) (.r3 (l5))), (.arr false (z6) (.ints .i64 (l7))), (.arr false (z8) (.ints .i64 (l9))), (.arr false (z10) (.ints .i64 (l11)))]), (.int .i64 (x0)), (.int .i64 (x3))]).bind fun r0 =>
 lp k impl_State_rain [(.ptr true [(.int .i64 (a0)), (.arr true (a1z) (.r3 (a1))), (.arr true (a2z) (.ints .i64 (a2))), (.arr true (a3z) (.ints .i64 (a3))), (.arr true (a4z) (.ints .i64 (a4)))])] fu 3 n (qwk x0 (IntKind.wrap .i64 (x1 + D.toInt (nth r0 0))) x2 (IntKind.wrap .i64 (x3 + (1 : Int))) z4 l5 z6 l7 z8 l9 z10 l11 x12 x13 x14 x15 x16))
 ((go k impl_sum [(.arr false (z6) (.ints .i64 (l7)))]).bind fun r1 =>
 cond (decide ((10000000 : Int) < IntKind.wrap .i64 (D.toInt (nth r1 0) + x1)))
 (some [(.agg [(.int .i64 (0 : Int)), (.int .i64 (0 : Int)), (.int .i64 (0 : Int)), (.int .i64 (0 : Int))]), (.ptr true [(.int .i64 (x12)), (.arr true (z4) (.r3 (l5))), (.arr true (z6) (.ints .i64 (l7))), (.arr true (z8) (.ints .i64 (l9))), (.arr true (z10) (.ints .i64 (l11)))])])
 (lp k impl_State_rain [(.ptr true [(.int .i64 (a0)), (.arr true (a1z) (.r3 (a1))), (.arr true (a2z) (.ints .i64 (a2))), (.arr true (a3z) (.ints .i64 (a3))), (.arr true (a4z) (.ints .i64 (a4)))])] fu 10 k (qwj x0 x1 (nI (List.length l7)) (0 : Int) z4 l5 z6 l7 z8 l9 z10 l11 x12 x13 x14 x15 x16))) := by kernel_rfl
def qwl (x0 x1 x2 : Int) (z3 : Bool) (l4 : List (Int × Int × Int)) (z5 : Bool) (l6 : List Int) (z7 : Bool) (l8 : List Int) (z9 : Bool) (l10 : List Int) (x11 x12 x13 x14 x15 x16 x17 x18 x19 : Int) : St := ⟨fill 32 [(0, (.ptr 4 (0) (0))), (1, (.int .i64 (x0))), (4, (.ptr 5 (0) (0))), (5, (.ptr 6 (0) (0))), (12, (.sl 1 none)), (13, (.int .i64 (x1))), (14, (.int .i64 (x2)))], [(.ptr 4 (0) (0))], [(.arr true (z3) (.r3 (l4))), (.arr true (z5) (.ints .i64 (l6))), (.arr true (z7) (.ints .i64 (l8))), (.arr true (z9) (.ints .i64 (l10))), (.box true [(.int .i64 (x11)), (.sl 0 none), (.sl 1 none), (.sl 2 none), (.sl 3 none)]), (.box true [(.int .i64 (x12)), (.int .i64 (x13)), (.int .i64 (x14)), (.int .i64 (x15))]), (.box true [(.int .i64 (x16)), (.int .i64 (x17)), (.int .i64 (x18)), (.int .i64 (x19))])]⟩
theorem qjx (k : Nat) (a0 : Int) (a1z : Bool) (a1 : List (Int × Int × Int)) (a2z : Bool) (a2 : List Int) (a3z : Bool) (a3 : List Int) (a4z : Bool) (a4 : List Int) (b : Int) : go (k + 1) impl_State_soak [(.ptr true [(.int .i64 (a0)), (.arr true (a1z) (.r3 (a1))), (.arr true (a2z) (.ints .i64 (a2))), (.arr true (a3z) (.ints .i64 (a3))), (.arr true (a4z) (.ints .i64 (a4)))]), (.int .i64 (b))] =
 lp k impl_State_soak [(.ptr true [(.int .i64 (a0)), (.arr true (a1z) (.r3 (a1))), (.arr true (a2z) (.ints .i64 (a2))), (.arr true (a3z) (.ints .i64 (a3))), (.arr true (a4z) (.ints .i64 (a4)))])] [] 3 k (qwl b (nI (List.length a2)) (0 : Int) a1z a1 a2z a2 a3z a3 a4z a4 a0 (0 : Int) (0 : Int) (0 : Int) (0 : Int) (0 : Int) (0 : Int) (0 : Int) (0 : Int)) := by kernel_rfl
theorem qpb (k n : Nat) (fu : List (Nat × Nat)) (a0 : Int) (a1z : Bool) (a1 : List (Int × Int × Int)) (a2z : Bool) (a2 : List Int) (a3z : Bool) (a3 : List Int) (a4z : Bool) (a4 : List Int) (x0 x1 x2 : Int) (z3 : Bool) (l4 : List (Int × Int × Int)) (z5 : Bool) (l6 : List Int) (z7 : Bool) (l8 : List Int) (z9 : Bool) (l10 : List Int) (x11 x12 x13 x14 x15 x16 x17 x18 x19 : Int) : lp k impl_State_soak [(.ptr true [(.int .i64 (a0)), (.arr true (a1z) (.r3 (a1))), (.arr true (a2z) (.ints .i64 (a2))), (.arr true (a3z) (.ints .i64 (a3))), (.arr true (a4z) (.ints .i64 (a4)))])] fu 3 (n + 1) (qwl x0 x1 x2 z3 l4 z5 l6 z7 l8 z9 l10 x11 x12 x13 x14 x15 x16 x17 x18 x19) =
 cond (decide (x2 < x1))
 (cond (decide ((0 : Int) ≤ x2) && decide (x2 < nI (List.length l6)))
 ((go k impl_State_partOf [(.agg [(.int .i64 (x11)), (.arr false (z3) (.r3 (l4))), (.arr false (z5) (.ints .i64 (l6))), (.arr false (z7) (.ints .i64 (l8))), (.arr false (z9) (.ints .i64 (l10)))]), (.int .i64 (x0)), (.int .i64 (x2))]).bind fun r0 =>
 cond (decide ((0 : Int) ≤ x2) && decide (x2 < nI (List.length l8)))
 (cond (decide ((0 : Int) ≤ x2) && decide (x2 < nI (List.length l6)))
 ((go k impl_ShareOut [(.int .i64 (List.getD l8 (Int.toNat x2) (0 : Int))), (.int .i64 (if D.toInt (nth r0 0) < List.getD l6 (Int.toNat x2) (0 : Int) then D.toInt (nth r0 0) else List.getD l6 (Int.toNat x2) (0 : Int))), (.int .i64 (List.getD l6 (Int.toNat x2) (0 : Int)))]).bind fun r1 =>
 cond (decide ((0 : Int) ≤ x2) && decide (x2 < nI (List.length l6)))
 (cond (decide ((0 : Int) ≤ x2) && decide (x2 < nI (List.length l6)))
 (cond (decide ((0 : Int) ≤ x2) && decide (x2 < nI (List.length l8)))
 (cond (decide ((0 : Int) ≤ x2) && decide (x2 < nI (List.length l8)))
 (lp k impl_State_soak [(.ptr true [(.int .i64 (a0)), (.arr true (a1z) (.r3 (a1))), (.arr true (a2z) (.ints .i64 (a2))), (.arr true (a3z) (.ints .i64 (a3))), (.arr true (a4z) (.ints .i64 (a4)))])] fu 3 n (qwl x0 x1 (IntKind.wrap .i64 (x2 + (1 : Int))) z3 l4 z5 (List.set l6 (Int.toNat x2) (IntKind.wrap .i64 (List.getD l6 (Int.toNat x2) (0 : Int) - if D.toInt (nth r0 0) < List.getD l6 (Int.toNat x2) (0 : Int) then D.toInt (nth r0 0) else List.getD l6 (Int.toNat x2) (0 : Int)))) z7 (List.set l8 (Int.toNat x2) (IntKind.wrap .i64 (List.getD l8 (Int.toNat x2) (0 : Int) - D.toInt (nth r1 0)))) z9 l10 x11 x12 x13 x14 x15 x16 (IntKind.wrap .i64 (x17 + if D.toInt (nth r0 0) < List.getD l6 (Int.toNat x2) (0 : Int) then D.toInt (nth r0 0) else List.getD l6 (Int.toNat x2) (0 : Int))) x18 (IntKind.wrap .i64 (x19 + D.toInt (nth r1 0)))))
 (none))
 (none))
 (none))
 (none))
 (none))
 (none))
 (none))
 (some [(.agg [(.int .i64 (x16)), (.int .i64 (x17)), (.int .i64 (x18)), (.int .i64 (x19))]), (.ptr true [(.int .i64 (x11)), (.arr true (z3) (.r3 (l4))), (.arr true (z5) (.ints .i64 (l6))), (.arr true (z7) (.ints .i64 (l8))), (.arr true (z9) (.ints .i64 (l10)))])]) := by kernel_rfl
def qwc (x0 x1 x2 : Int) (z3 : Bool) (l4 : List (Int × Int × Int)) (z5 : Bool) (l6 : List Int) (z7 : Bool) (l8 : List Int) (z9 : Bool) (l10 : List Int) (x11 x12 x13 x14 x15 x16 x17 x18 x19 : Int) : St := ⟨fill 41 [(0, (.ptr 4 (0) (0))), (1, (.int .i64 (x0))), (4, (.ptr 5 (0) (0))), (5, (.ptr 6 (0) (0))), (13, (.sl 2 none)), (14, (.int .i64 (x1))), (15, (.int .i64 (x2)))], [(.ptr 4 (0) (0))], [(.arr true (z3) (.r3 (l4))), (.arr true (z5) (.ints .i64 (l6))), (.arr true (z7) (.ints .i64 (l8))), (.arr true (z9) (.ints .i64 (l10))), (.box true [(.int .i64 (x11)), (.sl 0 none), (.sl 1 none), (.sl 2 none), (.sl 3 none)]), (.box true [(.int .i64 (x12)), (.int .i64 (x13)), (.int .i64 (x14)), (.int .i64 (x15))]), (.box true [(.int .i64 (x16)), (.int .i64 (x17)), (.int .i64 (x18)), (.int .i64 (x19))])]⟩
theorem qjj (k : Nat) (a0 : Int) (a1z : Bool) (a1 : List (Int × Int × Int)) (a2z : Bool) (a2 : List Int) (a3z : Bool) (a3 : List Int) (a4z : Bool) (a4 : List Int) (b : Int) : go (k + 1) impl_State_decay [(.ptr true [(.int .i64 (a0)), (.arr true (a1z) (.r3 (a1))), (.arr true (a2z) (.ints .i64 (a2))), (.arr true (a3z) (.ints .i64 (a3))), (.arr true (a4z) (.ints .i64 (a4)))]), (.int .i64 (b))] =
 lp k impl_State_decay [(.ptr true [(.int .i64 (a0)), (.arr true (a1z) (.r3 (a1))), (.arr true (a2z) (.ints .i64 (a2))), (.arr true (a3z) (.ints .i64 (a3))), (.arr true (a4z) (.ints .i64 (a4)))])] [] 3 k (qwc b (nI (List.length a3)) (0 : Int) a1z a1 a2z a2 a3z a3 a4z a4 a0 (0 : Int) (0 : Int) (0 : Int) (0 : Int) (0 : Int) (0 : Int) (0 : Int) (0 : Int)) := by kernel_rfl
theorem qo2 (k n : Nat) (fu : List (Nat × Nat)) (a0 : Int) (a1z : Bool) (a1 : List (Int × Int × Int)) (a2z : Bool) (a2 : List Int) (a3z : Bool) (a3 : List Int) (a4z : Bool) (a4 : List Int) (x0 x1 x2 : Int) (z3 : Bool) (l4 : List (Int × Int × Int)) (z5 : Bool) (l6 : List Int) (z7 : Bool) (l8 : List Int) (z9 : Bool) (l10 : List Int) (x11 x12 x13 x14 x15 x16 x17 x18 x19 : Int) : lp k impl_State_decay [(.ptr true [(.int .i64 (a0)), (.arr true (a1z) (.r3 (a1))), (.arr true (a2z) (.ints .i64 (a2))), (.arr true (a3z) (.ints .i64 (a3))), (.arr true (a4z) (.ints .i64 (a4)))])] fu 3 (n + 1) (qwc x0 x1 x2 z3 l4 z5 l6 z7 l8 z9 l10 x11 x12 x13 x14 x15 x16 x17 x18 x19) =
 cond (decide (x2 < x1))
 (cond (decide ((0 : Int) ≤ x2) && decide (x2 < nI (List.length l8)))
 (cond (decide ((0 : Int) ≤ x2) && decide (x2 < nI (List.length l8)))
 (cond (decide ((0 : Int) ≤ x2) && decide (x2 < nI (List.length l8)))
 (lp k impl_State_decay [(.ptr true [(.int .i64 (a0)), (.arr true (a1z) (.r3 (a1))), (.arr true (a2z) (.ints .i64 (a2))), (.arr true (a3z) (.ints .i64 (a3))), (.arr true (a4z) (.ints .i64 (a4)))])] fu 3 n (qwc x0 x1 (IntKind.wrap .i64 (x2 + (1 : Int))) z3 l4 z5 l6 z7 (List.set l8 (Int.toNat x2) (IntKind.wrap .i64 (List.getD l8 (Int.toNat x2) (0 : Int) - IntKind.wrap .i64 (Int.tdiv (IntKind.wrap .i64 (List.getD l8 (Int.toNat x2) (0 : Int) * x0)) (1000 : Int))))) z9 l10 x11 x12 x13 x14 x15 x16 x17 x18 (IntKind.wrap .i64 (x19 + IntKind.wrap .i64 (Int.tdiv (IntKind.wrap .i64 (List.getD l8 (Int.toNat x2) (0 : Int) * x0)) (1000 : Int))))))
 (none))
 (none))
 (none))
 (some [(.agg [(.int .i64 (x16)), (.int .i64 (x17)), (.int .i64 (x18)), (.int .i64 (x19))]), (.ptr true [(.int .i64 (x11)), (.arr true (z3) (.r3 (l4))), (.arr true (z5) (.ints .i64 (l6))), (.arr true (z7) (.ints .i64 (l8))), (.arr true (z9) (.ints .i64 (l10)))])]) := by kernel_rfl
def qwf (x0 : Int) (z1 : Bool) (l2 : List (Int × Int × Int)) (z3 : Bool) (l4 : List Int) (z5 : Bool) (l6 : List Int) (z7 : Bool) (l8 : List Int) (x9 : Int) : St := ⟨fill 15 [(0, (.ptr 4 (0) (0))), (3, (.int .i64 (x0)))], [(.ptr 4 (0) (0))], [(.arr true (z1) (.r3 (l2))), (.arr true (z3) (.ints .i64 (l4))), (.arr true (z5) (.ints .i64 (l6))), (.arr true (z7) (.ints .i64 (l8))), (.box true [(.int .i64 (x9)), (.sl 0 none), (.sl 1 none), (.sl 2 none), (.sl 3 none)])]⟩
theorem qjo (k : Nat) (a0 : Int) (a1z : Bool) (a1 : List (Int × Int × Int)) (a2z : Bool) (a2 : List Int) (a3z : Bool) (a3 : List Int) (a4z : Bool) (a4 : List Int) : go (k + 1) impl_State_macro [(.ptr true [(.int .i64 (a0)), (.arr true (a1z) (.r3 (a1))), (.arr true (a2z) (.ints .i64 (a2))), (.arr true (a3z) (.ints .i64 (a3))), (.arr true (a4z) (.ints .i64 (a4)))])] =
 lp k impl_State_macro [(.ptr true [(.int .i64 (a0)), (.arr true (a1z) (.r3 (a1))), (.arr true (a2z) (.ints .i64 (a2))), (.arr true (a3z) (.ints .i64 (a3))), (.arr true (a4z) (.ints .i64 (a4)))])] [] 1 k (qwf (0 : Int) a1z a1 a2z a2 a3z a3 a4z a4 a0) := by kernel_rfl
theorem qo5 (k n : Nat) (fu : List (Nat × Nat)) (a0 : Int) (a1z : Bool) (a1 : List (Int × Int × Int)) (a2z : Bool) (a2 : List Int) (a3z : Bool) (a3 : List Int) (a4z : Bool) (a4 : List Int) (x0 : Int) (z1 : Bool) (l2 : List (Int × Int × Int)) (z3 : Bool) (l4 : List Int) (z5 : Bool) (l6 : List Int) (z7 : Bool) (l8 : List Int) (x9 : Int) : lp k impl_State_macro [(.ptr true [(.int .i64 (a0)), (.arr true (a1z) (.r3 (a1))), (.arr true (a2z) (.ints .i64 (a2))), (.arr true (a3z) (.ints .i64 (a3))), (.arr true (a4z) (.ints .i64 (a4)))])] fu 1 (n + 1) (qwf x0 z1 l2 z3 l4 z5 l6 z7 l8 x9) =
 cond (decide (x0 < (16 : Int)))
 ((go k impl_Mesh_active [(.agg [(.int .i64 (x9)), (.arr false (z1) (.r3 (l2)))]), (.int .i64 (x0))]).bind fun r0 =>
 (go k impl_State_move [(.ptr true [(.int .i64 (x9)), (.arr true (z1) (.r3 (l2))), (.arr true (z3) (.ints .i64 (l4))), (.arr true (z5) (.ints .i64 (l6))), (.arr true (z7) (.ints .i64 (l8)))]), (.arr false (D.nil (nth r0 0)) (.ints .i64 (D.ints (nth r0 0))))]).bind fun r1 =>
 lp k impl_State_macro [(.ptr true [(.int .i64 (a0)), (.arr true (a1z) (.r3 (a1))), (.arr true (a2z) (.ints .i64 (a2))), (.arr true (a3z) (.ints .i64 (a3))), (.arr true (a4z) (.ints .i64 (a4)))])] fu 1 n (qwf (IntKind.wrap .i64 (x0 + (1 : Int))) (D.nil (D.cell 1 (nth r1 0))) (D.r3 (D.cell 1 (nth r1 0))) (D.nil (D.cell 2 (nth r1 0))) (D.ints (D.cell 2 (nth r1 0))) (D.nil (D.cell 3 (nth r1 0))) (D.ints (D.cell 3 (nth r1 0))) (D.nil (D.cell 4 (nth r1 0))) (D.ints (D.cell 4 (nth r1 0))) (D.toInt (D.cell 0 (nth r1 0)))))
 (some [(.ptr true [(.int .i64 (x9)), (.arr true (z1) (.r3 (l2))), (.arr true (z3) (.ints .i64 (l4))), (.arr true (z5) (.ints .i64 (l6))), (.arr true (z7) (.ints .i64 (l8)))])]) := by kernel_rfl
theorem qjv (k : Nat) (a0 : Int) (a1z : Bool) (a1 : List (Int × Int × Int)) (a2z : Bool) (a2 : List Int) (a3z : Bool) (a3 : List Int) (a4z : Bool) (a4 : List Int) (b0 b1 b2 b3 b4 b5 b6 b7 b8 c : Int) : go (k + 1) impl_State_runMacro [(.ptr true [(.int .i64 (a0)), (.arr true (a1z) (.r3 (a1))), (.arr true (a2z) (.ints .i64 (a2))), (.arr true (a3z) (.ints .i64 (a3))), (.arr true (a4z) (.ints .i64 (a4)))]), (.agg [(.int .i64 (b0)), (.int .i64 (b1)), (.int .i64 (b2)), (.int .i64 (b3)), (.int .i64 (b4)), (.int .i64 (b5)), (.int .i64 (b6)), (.int .i64 (b7)), (.int .i64 (b8))]), (.int .i64 (c))] =
 (go k impl_State_border [(.ptr true [(.int .i64 (a0)), (.arr true (a1z) (.r3 (a1))), (.arr true (a2z) (.ints .i64 (a2))), (.arr true (a3z) (.ints .i64 (a3))), (.arr true (a4z) (.ints .i64 (a4)))]), (.agg [(.int .i64 (b0)), (.int .i64 (b1)), (.int .i64 (b2))])]).bind fun r0 =>
 (go k impl_State_rain [(.ptr true [(.int .i64 (D.toInt (D.cell 0 (nth r0 1)))), (.arr true (D.nil (D.cell 1 (nth r0 1))) (.r3 (D.r3 (D.cell 1 (nth r0 1))))), (.arr true (D.nil (D.cell 2 (nth r0 1))) (.ints .i64 (D.ints (D.cell 2 (nth r0 1))))), (.arr true (D.nil (D.cell 3 (nth r0 1))) (.ints .i64 (D.ints (D.cell 3 (nth r0 1))))), (.arr true (D.nil (D.cell 4 (nth r0 1))) (.ints .i64 (D.ints (D.cell 4 (nth r0 1)))))]), (.int .i64 (b3))]).bind fun r1 =>
 (go k impl_LedgerAdd [(.agg [(.int .i64 (D.toInt (D.cell 0 (nth r0 0)))), (.int .i64 (D.toInt (D.cell 1 (nth r0 0)))), (.int .i64 (D.toInt (D.cell 2 (nth r0 0)))), (.int .i64 (D.toInt (D.cell 3 (nth r0 0))))]), (.agg [(.int .i64 (D.toInt (D.cell 0 (nth r1 0)))), (.int .i64 (D.toInt (D.cell 1 (nth r1 0)))), (.int .i64 (D.toInt (D.cell 2 (nth r1 0)))), (.int .i64 (D.toInt (D.cell 3 (nth r1 0))))])]).bind fun r2 =>
 (go k impl_State_soak [(.ptr true [(.int .i64 (D.toInt (D.cell 0 (nth r1 1)))), (.arr true (D.nil (D.cell 1 (nth r1 1))) (.r3 (D.r3 (D.cell 1 (nth r1 1))))), (.arr true (D.nil (D.cell 2 (nth r1 1))) (.ints .i64 (D.ints (D.cell 2 (nth r1 1))))), (.arr true (D.nil (D.cell 3 (nth r1 1))) (.ints .i64 (D.ints (D.cell 3 (nth r1 1))))), (.arr true (D.nil (D.cell 4 (nth r1 1))) (.ints .i64 (D.ints (D.cell 4 (nth r1 1)))))]), (.int .i64 (b4))]).bind fun r3 =>
 (go k impl_LedgerAdd [(.agg [(.int .i64 (D.toInt (D.cell 0 (nth r2 0)))), (.int .i64 (D.toInt (D.cell 1 (nth r2 0)))), (.int .i64 (D.toInt (D.cell 2 (nth r2 0)))), (.int .i64 (D.toInt (D.cell 3 (nth r2 0))))]), (.agg [(.int .i64 (D.toInt (D.cell 0 (nth r3 0)))), (.int .i64 (D.toInt (D.cell 1 (nth r3 0)))), (.int .i64 (D.toInt (D.cell 2 (nth r3 0)))), (.int .i64 (D.toInt (D.cell 3 (nth r3 0))))])]).bind fun r4 =>
 (go k impl_State_decay [(.ptr true [(.int .i64 (D.toInt (D.cell 0 (nth r3 1)))), (.arr true (D.nil (D.cell 1 (nth r3 1))) (.r3 (D.r3 (D.cell 1 (nth r3 1))))), (.arr true (D.nil (D.cell 2 (nth r3 1))) (.ints .i64 (D.ints (D.cell 2 (nth r3 1))))), (.arr true (D.nil (D.cell 3 (nth r3 1))) (.ints .i64 (D.ints (D.cell 3 (nth r3 1))))), (.arr true (D.nil (D.cell 4 (nth r3 1))) (.ints .i64 (D.ints (D.cell 4 (nth r3 1)))))]), (.int .i64 (b5))]).bind fun r5 =>
 (go k impl_LedgerAdd [(.agg [(.int .i64 (D.toInt (D.cell 0 (nth r4 0)))), (.int .i64 (D.toInt (D.cell 1 (nth r4 0)))), (.int .i64 (D.toInt (D.cell 2 (nth r4 0)))), (.int .i64 (D.toInt (D.cell 3 (nth r4 0))))]), (.agg [(.int .i64 (D.toInt (D.cell 0 (nth r5 0)))), (.int .i64 (D.toInt (D.cell 1 (nth r5 0)))), (.int .i64 (D.toInt (D.cell 2 (nth r5 0)))), (.int .i64 (D.toInt (D.cell 3 (nth r5 0))))])]).bind fun r6 =>
 (go k impl_State_macro [(.ptr true [(.int .i64 (D.toInt (D.cell 0 (nth r5 1)))), (.arr true (D.nil (D.cell 1 (nth r5 1))) (.r3 (D.r3 (D.cell 1 (nth r5 1))))), (.arr true (D.nil (D.cell 2 (nth r5 1))) (.ints .i64 (D.ints (D.cell 2 (nth r5 1))))), (.arr true (D.nil (D.cell 3 (nth r5 1))) (.ints .i64 (D.ints (D.cell 3 (nth r5 1))))), (.arr true (D.nil (D.cell 4 (nth r5 1))) (.ints .i64 (D.ints (D.cell 4 (nth r5 1)))))])]).bind fun r7 =>
 cond (decide ((0 : Int) < b8))
 (cond (!decide (b8 = (0 : Int)))
 (cond (decide (Int.tmod (IntKind.wrap .i64 (c + (1 : Int))) b8 = (0 : Int)))
 ((go k impl_State_adapt [(.ptr true [(.int .i64 (D.toInt (D.cell 0 (nth r7 0)))), (.arr true (D.nil (D.cell 1 (nth r7 0))) (.r3 (D.r3 (D.cell 1 (nth r7 0))))), (.arr true (D.nil (D.cell 2 (nth r7 0))) (.ints .i64 (D.ints (D.cell 2 (nth r7 0))))), (.arr true (D.nil (D.cell 3 (nth r7 0))) (.ints .i64 (D.ints (D.cell 3 (nth r7 0))))), (.arr true (D.nil (D.cell 4 (nth r7 0))) (.ints .i64 (D.ints (D.cell 4 (nth r7 0)))))]), (.int .i64 (b6)), (.int .i64 (b7))]).bind fun r8 =>
 some [(.agg [(.int .i64 (D.toInt (D.cell 0 (nth r6 0)))), (.int .i64 (D.toInt (D.cell 1 (nth r6 0)))), (.int .i64 (D.toInt (D.cell 2 (nth r6 0)))), (.int .i64 (D.toInt (D.cell 3 (nth r6 0))))]), (.ptr true [(.int .i64 (D.toInt (D.cell 0 (nth r8 0)))), (.arr true (D.nil (D.cell 1 (nth r8 0))) (.r3 (D.r3 (D.cell 1 (nth r8 0))))), (.arr true (D.nil (D.cell 2 (nth r8 0))) (.ints .i64 (D.ints (D.cell 2 (nth r8 0))))), (.arr true (D.nil (D.cell 3 (nth r8 0))) (.ints .i64 (D.ints (D.cell 3 (nth r8 0))))), (.arr true (D.nil (D.cell 4 (nth r8 0))) (.ints .i64 (D.ints (D.cell 4 (nth r8 0)))))])])
 (some [(.agg [(.int .i64 (D.toInt (D.cell 0 (nth r6 0)))), (.int .i64 (D.toInt (D.cell 1 (nth r6 0)))), (.int .i64 (D.toInt (D.cell 2 (nth r6 0)))), (.int .i64 (D.toInt (D.cell 3 (nth r6 0))))]), (.ptr true [(.int .i64 (D.toInt (D.cell 0 (nth r7 0)))), (.arr true (D.nil (D.cell 1 (nth r7 0))) (.r3 (D.r3 (D.cell 1 (nth r7 0))))), (.arr true (D.nil (D.cell 2 (nth r7 0))) (.ints .i64 (D.ints (D.cell 2 (nth r7 0))))), (.arr true (D.nil (D.cell 3 (nth r7 0))) (.ints .i64 (D.ints (D.cell 3 (nth r7 0))))), (.arr true (D.nil (D.cell 4 (nth r7 0))) (.ints .i64 (D.ints (D.cell 4 (nth r7 0)))))])]))
 (none))
 (some [(.agg [(.int .i64 (D.toInt (D.cell 0 (nth r6 0)))), (.int .i64 (D.toInt (D.cell 1 (nth r6 0)))), (.int .i64 (D.toInt (D.cell 2 (nth r6 0)))), (.int .i64 (D.toInt (D.cell 3 (nth r6 0))))]), (.ptr true [(.int .i64 (D.toInt (D.cell 0 (nth r7 0)))), (.arr true (D.nil (D.cell 1 (nth r7 0))) (.r3 (D.r3 (D.cell 1 (nth r7 0))))), (.arr true (D.nil (D.cell 2 (nth r7 0))) (.ints .i64 (D.ints (D.cell 2 (nth r7 0))))), (.arr true (D.nil (D.cell 3 (nth r7 0))) (.ints .i64 (D.ints (D.cell 3 (nth r7 0))))), (.arr true (D.nil (D.cell 4 (nth r7 0))) (.ints .i64 (D.ints (D.cell 4 (nth r7 0)))))])]) := by kernel_rfl
theorem qis (k : Nat) (a0 a1 a2 a3 b0 b1 b2 b3 : Int) : go (k + 1) impl_LedgerAdd [(.agg [(.int .i64 (a0)), (.int .i64 (a1)), (.int .i64 (a2)), (.int .i64 (a3))]), (.agg [(.int .i64 (b0)), (.int .i64 (b1)), (.int .i64 (b2)), (.int .i64 (b3))])] =
 some [(.agg [(.int .i64 (IntKind.wrap .i64 (a0 + b0))), (.int .i64 (IntKind.wrap .i64 (a1 + b1))), (.int .i64 (IntKind.wrap .i64 (a2 + b2))), (.int .i64 (IntKind.wrap .i64 (a3 + b3)))])] := by kernel_rfl
end Go.Proofs.YtoldpdhhfmlckaaGreat
end
section
namespace Go.Proofs.YtoldpdhhfmlckaaGreat
open Go.Ev
set_option maxRecDepth 20000
theorem qu0 (o : Bool) (d0 : D) (l : List D) : (D.ptr o (d0 :: l)).cell 0 = d0 := Eq.trans rfl rfl
theorem qu1 (o : Bool) (d0 d1 : D) (l : List D) : (D.ptr o (d0 :: d1 :: l)).cell 1 = d1 := Eq.trans rfl rfl
theorem qu2 (o : Bool) (d0 d1 d2 : D) (l : List D) : (D.ptr o (d0 :: d1 :: d2 :: l)).cell 2 = d2 := Eq.trans rfl rfl
theorem qu3 (o : Bool) (d0 d1 d2 d3 : D) (l : List D) : (D.ptr o (d0 :: d1 :: d2 :: d3 :: l)).cell 3 = d3 := Eq.trans rfl rfl
theorem qu4 (o : Bool) (d0 d1 d2 d3 d4 : D) (l : List D) : (D.ptr o (d0 :: d1 :: d2 :: d3 :: d4 :: l)).cell 4 = d4 := Eq.trans rfl rfl
def upto (L i : Nat) (f g : Nat → Int) : List Int := tab L (fun j => if j < i then f j else g j)
theorem qz9 (L i : Nat) (f g : Nat → Int) : (upto L i f g).length = L := qzf _ _
theorem qz8 {L i : Nat} {f g : Nat → Int} (h : i < L) : (upto L i f g).getD i 0 = g i := by
  unfold upto; rw [qze h, if_neg (by omega)]
theorem q0a (L i : Nat) (f g : Nat → Int) (v : Int) (hv : v = f i) : (upto L i f g).set i v = upto L (i + 1) f g := by
  unfold upto
  rw [qzh]
  refine qzd fun j hj => ?_
  by_cases e : j = i
  · subst e; rw [if_pos rfl, if_pos (by omega), hv]
  · rw [if_neg e]
    by_cases e2 : j < i
    · rw [if_pos e2, if_pos (by omega)]
    · rw [if_neg e2, if_neg (by omega)]
theorem q0b (m : List Int) (L : Nat) (h : m.length = L) (f : Nat → Int) : upto L 0 f (fun j => m.getD j 0) = m := by
  subst h
  refine Eq.trans (qzd fun j hj => ?_) (qzg m).symm
  rw [if_neg (by omega)]
theorem qz7 (L : Nat) (f g : Nat → Int) : upto L L f g = tab L f := qzd fun j hj => if_pos hj
theorem qzn {a : Int} (ha : 0 ≤ a ∧ a ≤ 10000) (l : List Cell) (i : Nat) : (0 ≤ a * q0d (l.getD i zz3).2.1 ∧ a * q0d (l.getD i zz3).2.1 ≤ 160000) ∧ Int.tdiv (a * q0d (l.getD i zz3).2.1) 16 = part a l i := by
  have w := q0f (l.getD i zz3).2.1
  have h1 := Int.mul_nonneg ha.1 w.1
  have h2 : a * q0d (l.getD i zz3).2.1 ≤ a * 16 := Int.mul_le_mul_of_nonneg_left w.2 ha.1
  exact ⟨⟨h1, by omega⟩, Int.tdiv_eq_ediv_of_nonneg h1⟩
theorem qdl (k : Nat) (hk : 2000000 ≤ k) (z1 z2 z3 z4 : Bool) (r : Int) (l : List Cell) (m t b : List Int) (a : Int) (ha : 0 ≤ a ∧ a ≤ 10000) (i : Nat) (hi : i < l.length) (hl : l.length ≤ 128) :
    go (k + 4) impl_State_partOf [.agg [.int .i64 (r), .arr false (z1) (.r3 (l)), .arr false (z2) (.ints .i64 (m)), .arr false (z3) (.ints .i64 (t)), .arr false (z4) (.ints .i64 (b))], .int .i64 a, .int .i64 (i : Int)] = some [.int .i64 (part a l i)] := by
  rw [qjr]
  have d := qzn ha l i; have p := quk ha l i
  have e := d.2
  simp (disch := omega) only [dT, nI, Bool.and_true, Int.toNat_natCast, qcp, qa9, nth0, qzu, q0l, e, qhl]
theorem qy7 {x : List Int} (h : ∀ v ∈ x, 0 ≤ v ∧ v ≤ 1000000000000) (n : Nat) : qy4 (fun j => x.getD j 0) n ≤ isum x := by
  rw [qok x]
  have nn : ∀ j, 0 ≤ x.getD j 0 := fun j => by
    by_cases g : j < x.length
    · exact (h _ (qnw g 0)).1
    · rw [qnv (by omega)]; exact Int.le_refl 0
  have up : ∀ d, qy4 (fun j => x.getD j 0) n ≤ qy4 (fun j => x.getD j 0) (n + d) := by
    intro d
    induction d with
    | zero => exact Int.le_refl _
    | succ d ih => have := nn (n + d); rw [show n + (d + 1) = (n + d) + 1 from rfl, qy4]; omega
  by_cases g : n ≤ x.length
  · have := up (x.length - n)
    rwa [show n + (x.length - n) = x.length by omega] at this
  · have hi : ∀ d, qy4 (fun j => x.getD j 0) (x.length + d) = qy4 (fun j => x.getD j 0) x.length := by
      intro d
      induction d with
      | zero => rfl
      | succ d ih => rw [show x.length + (d + 1) = (x.length + d) + 1 from rfl, qy4, ih, qnv (by omega)]; omega
    have := hi (n - x.length)
    rw [show x.length + (n - x.length) = n by omega] at this
    rw [this]; exact Int.le_refl _
abbrev raF (a : Int) (l : List Cell) (m : List Int) (j : Nat) : Int := m.getD j 0 + part a l j
theorem qrt (k : Nat) (hk : 2000000 ≤ k) (fu : List (Nat × Nat)) (a0 : Int) (a1z : Bool) (a1 : List Cell) (a2z : Bool) (a2 : List Int) (a3z : Bool) (a3 : List Int) (a4z : Bool) (a4 : List Int) (z1 z2 z3 z4 : Bool) (r : Int) (l : List Cell) (m t b : List Int) (a tot : Int) (ha : 0 ≤ a ∧ a ≤ 10000) (F : StF r l m t b) : ∀ (N i : Nat), i ≤ l.length → l.length - i < N →
    lp (k + 4) impl_State_rain [(.ptr true [(.int .i64 (a0)), (.arr true (a1z) (.r3 (a1))), (.arr true (a2z) (.ints .i64 (a2))), (.arr true (a3z) (.ints .i64 (a3))), (.arr true (a4z) (.ints .i64 (a4)))])] fu 10 (N) (qwj a tot (l.length : Int) (i : Int) z1 l z2 (upto l.length i (raF a l m) (fun j => m.getD j 0)) z3 t z4 b r 0 0 0 0) = some [.agg [.int .i64 tot, .int .i64 0, .int .i64 0, .int .i64 0], .ptr true [.int .i64 (r), .arr true (z1) (.r3 (l)), .arr true (z2) (.ints .i64 (tab l.length (raF a l m))), .arr true (z3) (.ints .i64 (t)), .arr true (z4) (.ints .i64 (b))]]
  | 0, i, hi, hN => by omega
  | N + 1, i, hi, hN => by
    rw [qo9]
    have L := F.len; have f := F.at i; have p := quk ha l i
    by_cases g : i < l.length
    · have IH := qrt k hk fu a0 a1z a1 a2z a2 a3z a3 a4z a4 z1 z2 z3 z4 r l m t b a tot ha F N (i + 1) (by omega) (by omega)
      have es : (upto l.length i (raF a l m) (fun j => m.getD j 0)).set i (m.getD i 0 + part a l i) = upto l.length (i + 1) (raF a l m) (fun j => m.getD j 0) := q0a _ _ _ _ _ rfl
      have eg : (upto l.length i (raF a l m) (fun j => m.getD j 0)).getD i 0 = m.getD i 0 := qz8 g
      simp (disch := omega) only [dT, nI, qz9, Bool.and_true, qdl, qgp, q0l, Int.toNat_natCast, eg, qhl, qa9, nth0, qzu, es, IH]
    · have : i = l.length := by omega
      subst this
      simp (disch := omega) only [dF, dT, nI, qz7, Bool.true_and, qgp, q0l, Int.toNat_natCast, qhj]
theorem qru (k : Nat) (hk : 2000000 ≤ k) (fu : List (Nat × Nat)) (a0 : Int) (a1z : Bool) (a1 : List Cell) (a2z : Bool) (a2 : List Int) (a3z : Bool) (a3 : List Int) (a4z : Bool) (a4 : List Int) (z1 z2 z3 z4 : Bool) (r : Int) (l : List Cell) (m t b : List Int) (a : Int) (ha : 0 ≤ a ∧ a ≤ 10000) (F : StF r l m t b) : ∀ (N i : Nat), i ≤ l.length → l.length - i < N →
    lp (k + 4) impl_State_rain [(.ptr true [(.int .i64 (a0)), (.arr true (a1z) (.r3 (a1))), (.arr true (a2z) (.ints .i64 (a2))), (.arr true (a3z) (.ints .i64 (a3))), (.arr true (a4z) (.ints .i64 (a4)))])] fu 3 (N) (qwk a (qy4 (part a l) i) (l.length : Int) (i : Int) z1 l z2 m z3 t z4 b r 0 0 0 0) = some [.agg [.int .i64 (raS a l (m, t)).2.mi, .int .i64 0, .int .i64 0, .int .i64 0], .ptr true [.int .i64 (r), .arr true (z1) (.r3 (l)), .arr true (z2) (.ints .i64 ((raS a l (m, t)).1.1)), .arr true (z3) (.ints .i64 (t)), .arr true (z4) (.ints .i64 (b))]]
  | 0, i, hi, hN => by omega
  | N + 1, i, hi, hN => by
    rw [qpa]
    have L := F.len; have p := quk ha l i; have ps := qul ha l i; have ml := F.ml; have ms := F.msum
    by_cases g : i < l.length
    · have IH := qru k hk fu a0 a1z a1 a2z a2 a3z a3 a4z a4 z1 z2 z3 z4 r l m t b a ha F N (i + 1) (by omega) (by omega)
      rw [show qy4 (part a l) (i + 1) = qy4 (part a l) i + part a l i from rfl] at IH
      simp (disch := omega) only [dT, qdl, qgp, q0l, qa9, nth0, qzu, IH, nI, qhl]
    · have : i = l.length := by omega
      subst this
      have e10 := qrt k hk fu a0 a1z a1 a2z a2 a3z a3 a4z a4 z1 z2 z3 z4 r l m t b a (qy4 (part a l) l.length) ha F (k + 4) 0 (by omega) (by omega)
      rw [q0b m l.length ml] at e10
      rw [show ((0 : Nat) : Int) = 0 from rfl] at e10
      have es := qdu (k + 3) (by omega) z2 m (by omega) F.mmem
      unfold raS
      by_cases h : isum m + qy4 (part a l) l.length ≤ 10000000
      · rw [if_pos h]
        simp (disch := omega) only [dF, qgp, q0l, es, nI, ml, qa9, nth0, qzu, qhj]
        exact e10
      · rw [if_neg h]
        simp (disch := omega) only [dF, qgp, q0l, es, nI, qa9, nth0, qzu, dT, qhl, qhj]
theorem quy (a : Int) (l : List Cell) (s : S2) : (raS a l s).1.2 = s.2 := by unfold raS; split <;> rfl
theorem quz (a : Int) (l : List Cell) (s : S2) : (raS a l s).2.mo = 0 ∧ (raS a l s).2.ti = 0 ∧ (raS a l s).2.ou = 0 := by unfold raS; split <;> exact ⟨rfl, rfl, rfl⟩
theorem qdm (k : Nat) (hk : 2000000 ≤ k) (z1 z2 z3 z4 : Bool) (r : Int) (l : List Cell) (m t b : List Int) (a : Int) (ha : 0 ≤ a ∧ a ≤ 10000) (F : StF r l m t b) :
    go (k + 5) impl_State_rain [.ptr true [.int .i64 (r), .arr true (z1) (.r3 (l)), .arr true (z2) (.ints .i64 (m)), .arr true (z3) (.ints .i64 (t)), .arr true (z4) (.ints .i64 (b))], .int .i64 a] = some [.agg [.int .i64 (raS a l (m, t)).2.mi, .int .i64 0, .int .i64 0, .int .i64 0], .ptr true [.int .i64 (r), .arr true (z1) (.r3 (l)), .arr true (z2) (.ints .i64 ((raS a l (m, t)).1.1)), .arr true (z3) (.ints .i64 (t)), .arr true (z4) (.ints .i64 (b))]] := by
  rw [qjs]
  have ml := F.ml
  have e := qru k hk [] r z1 l z2 m z3 t z4 b z1 z2 z3 z4 r l m t b a ha F (k + 4) 0 (by omega) (by have := F.len; omega)
  rw [show ((0 : Nat) : Int) = 0 from rfl, show qy4 (part a l) 0 = 0 from rfl] at e
  simp (disch := omega) only [nI, ml]
  exact e
end Go.Proofs.YtoldpdhhfmlckaaGreat
end
section
namespace Go.Proofs.YtoldpdhhfmlckaaGreat
open Go.Ev
set_option maxRecDepth 20000
abbrev soF (a : Int) (l : List Cell) (m : List Int) (j : Nat) : Int := m.getD j 0 - soX a l m j
abbrev soG (a : Int) (l : List Cell) (m t : List Int) (j : Nat) : Int := t.getD j 0 - soY a l m t j
theorem qrv (k : Nat) (hk : 2000000 ≤ k) (fu : List (Nat × Nat)) (a0 : Int) (a1z : Bool) (a1 : List Cell) (a2z : Bool) (a2 : List Int) (a3z : Bool) (a3 : List Int) (a4z : Bool) (a4 : List Int) (z1 z2 z3 z4 : Bool) (r : Int) (l : List Cell) (m t b : List Int) (a : Int) (ha : 0 ≤ a ∧ a ≤ 10000) (F : StF r l m t b) (p0 p1 p2 p3 : Int) : ∀ (N i : Nat), i ≤ l.length → l.length - i < N →
    lp (k + 4) impl_State_soak [(.ptr true [(.int .i64 (a0)), (.arr true (a1z) (.r3 (a1))), (.arr true (a2z) (.ints .i64 (a2))), (.arr true (a3z) (.ints .i64 (a3))), (.arr true (a4z) (.ints .i64 (a4)))])] fu 3 (N) (qwl a (l.length : Int) (i : Int) z1 l z2 (upto l.length i (soF a l m) (fun j => m.getD j 0)) z3 (upto l.length i (soG a l m t) (fun j => t.getD j 0)) z4 b r p0 p1 p2 p3 0 (qy4 (soX a l m) i) 0 (qy4 (soY a l m t) i)) = some [.agg [.int .i64 0, .int .i64 (qy4 (soX a l m) l.length), .int .i64 0, .int .i64 (qy4 (soY a l m t) l.length)], .ptr true [.int .i64 (r), .arr true (z1) (.r3 (l)), .arr true (z2) (.ints .i64 (tab l.length (soF a l m))), .arr true (z3) (.ints .i64 (tab l.length (soG a l m t))), .arr true (z4) (.ints .i64 (b))]]
  | 0, i, hi, hN => by omega
  | N + 1, i, hi, hN => by
    rw [qpb]
    have L := F.len; have f := F.at i; have p := quk ha l i
    by_cases g : i < l.length
    · have IH := qrv k hk fu a0 a1z a1 a2z a2 a3z a3 a4z a4 z1 z2 z3 z4 r l m t b a ha F p0 p1 p2 p3 N (i + 1) (by omega) (by omega)
      rw [show qy4 (soX a l m) (i + 1) = qy4 (soX a l m) i + soX a l m i from rfl, show qy4 (soY a l m t) (i + 1) = qy4 (soY a l m t) i + soY a l m t i from rfl] at IH
      have s1 : (upto l.length i (soF a l m) (fun j => m.getD j 0)).set i (m.getD i 0 - soX a l m i) = upto l.length (i + 1) (soF a l m) (fun j => m.getD j 0) := q0a _ _ _ _ _ rfl
      have s2 : (upto l.length i (soG a l m t) (fun j => t.getD j 0)).set i (t.getD i 0 - soY a l m t i) = upto l.length (i + 1) (soG a l m t) (fun j => t.getD j 0) := q0a _ _ _ _ _ rfl
      have g1 : (upto l.length i (soF a l m) (fun j => m.getD j 0)).getD i 0 = m.getD i 0 := qz8 g
      have g2 : (upto l.length i (soG a l m t) (fun j => t.getD j 0)).getD i 0 = t.getD i 0 := qz8 g
      have x1 := qyh F ha i; have y1 := (qyi F ha i).1
      have q := qyj F ha i
      have q1 := qyj F ha l.length
      have ms := F.msum; have ts := F.tle
      have d1 := qy7 F.mmem i; have d2 := qy7 F.tmem i
      have ex : min (part a l i) (m.getD i 0) = soX a l m i := Int.min_comm _ _
      have ey : qx7 (t.getD i 0) (soX a l m i) (m.getD i 0) = soY a l m t i := rfl
      simp (disch := omega) only [dT, nI, qz9, Bool.and_true, qdl, Int.toNat_natCast, g2, g1, imin, qch, qgp, q0l, qhl, qa9, nth0, qzu, ex, s1, ey, s2, IH]
    · have : i = l.length := by omega
      subst this
      simp (disch := omega) only [dF, dT, nI, qz7, Bool.true_and, Int.toNat_natCast, imin, qgp, q0l, qhj]
theorem qdt (k : Nat) (hk : 2000000 ≤ k) (z1 z2 z3 z4 : Bool) (r : Int) (l : List Cell) (m t b : List Int) (a : Int) (ha : 0 ≤ a ∧ a ≤ 10000) (F : StF r l m t b) :
    go (k + 5) impl_State_soak [.ptr true [.int .i64 (r), .arr true (z1) (.r3 (l)), .arr true (z2) (.ints .i64 (m)), .arr true (z3) (.ints .i64 (t)), .arr true (z4) (.ints .i64 (b))], .int .i64 a] = some [.agg [.int .i64 0, .int .i64 (soS a l (m, t)).2.mo, .int .i64 0, .int .i64 (soS a l (m, t)).2.ou], .ptr true [.int .i64 (r), .arr true (z1) (.r3 (l)), .arr true (z2) (.ints .i64 ((soS a l (m, t)).1.1)), .arr true (z3) (.ints .i64 ((soS a l (m, t)).1.2)), .arr true (z4) (.ints .i64 (b))]] := by
  rw [qjx]
  have ml := F.ml; have tl := F.tl
  have e := qrv k hk [] r z1 l z2 m z3 t z4 b z1 z2 z3 z4 r l m t b a ha F 0 0 0 0 (k + 4) 0 (by omega) (by have := F.len; omega)
  rw [show ((0 : Nat) : Int) = 0 from rfl, show qy4 (soX a l m) 0 = 0 from rfl, show qy4 (soY a l m t) 0 = 0 from rfl, q0b m l.length ml, q0b t l.length tl] at e
  simp (disch := omega) only [nI, ml]
  exact e
abbrev deF (a : Int) (t : List Int) (j : Nat) : Int := t.getD j 0 - deX a t j
theorem qzl {r : Int} {l : List Cell} {m t b : List Int} (F : StF r l m t b) {a : Int} (ha : 0 ≤ a ∧ a ≤ 1000) (i : Nat) : (0 ≤ t.getD i 0 * a ∧ t.getD i 0 * a ≤ 10000000000000) ∧ Int.tdiv (t.getD i 0 * a) 1000 = deX a t i := by
  have f := F.at i
  have h1 := Int.mul_nonneg f.2.2.1 ha.1
  have h2 : t.getD i 0 * a ≤ t.getD i 0 * 1000 := Int.mul_le_mul_of_nonneg_left ha.2 f.2.2.1
  exact ⟨⟨h1, by omega⟩, Int.tdiv_eq_ediv_of_nonneg h1⟩
theorem qhy {r : Int} {l : List Cell} {m t b : List Int} (F : StF r l m t b) {a : Int} (ha : 0 ≤ a ∧ a ≤ 1000) (n : Nat) : 0 ≤ qy4 (deX a t) n ∧ qy4 (deX a t) n ≤ qy4 (fun j => t.getD j 0) n :=
  ⟨qy8 n fun j _ => (qhx F ha j).1, qy6 n fun j _ => (qhx F ha j).2⟩
theorem qrq (k : Nat) (hk : 2000000 ≤ k) (fu : List (Nat × Nat)) (a0 : Int) (a1z : Bool) (a1 : List Cell) (a2z : Bool) (a2 : List Int) (a3z : Bool) (a3 : List Int) (a4z : Bool) (a4 : List Int) (z1 z2 z3 z4 : Bool) (r : Int) (l : List Cell) (m t b : List Int) (a : Int) (ha : 0 ≤ a ∧ a ≤ 1000) (F : StF r l m t b) (p0 p1 p2 p3 : Int) : ∀ (N i : Nat), i ≤ l.length → l.length - i < N →
    lp k impl_State_decay [(.ptr true [(.int .i64 (a0)), (.arr true (a1z) (.r3 (a1))), (.arr true (a2z) (.ints .i64 (a2))), (.arr true (a3z) (.ints .i64 (a3))), (.arr true (a4z) (.ints .i64 (a4)))])] fu 3 (N) (qwc a (l.length : Int) (i : Int) z1 l z2 m z3 (upto l.length i (deF a t) (fun j => t.getD j 0)) z4 b r p0 p1 p2 p3 0 0 0 (qy4 (deX a t) i)) = some [.agg [.int .i64 0, .int .i64 0, .int .i64 0, .int .i64 (qy4 (deX a t) l.length)], .ptr true [.int .i64 (r), .arr true (z1) (.r3 (l)), .arr true (z2) (.ints .i64 (m)), .arr true (z3) (.ints .i64 (tab l.length (deF a t))), .arr true (z4) (.ints .i64 (b))]]
  | 0, i, hi, hN => by omega
  | N + 1, i, hi, hN => by
    rw [qo2]
    have L := F.len; have f := F.at i; have d := qzl F ha i
    by_cases g : i < l.length
    · have IH := qrq k hk fu a0 a1z a1 a2z a2 a3z a3 a4z a4 z1 z2 z3 z4 r l m t b a ha F p0 p1 p2 p3 N (i + 1) (by omega) (by omega)
      rw [show qy4 (deX a t) (i + 1) = qy4 (deX a t) i + deX a t i from rfl] at IH
      have s2 : (upto l.length i (deF a t) (fun j => t.getD j 0)).set i (t.getD i 0 - deX a t i) = upto l.length (i + 1) (deF a t) (fun j => t.getD j 0) := q0a _ _ _ _ _ rfl
      have g2 : (upto l.length i (deF a t) (fun j => t.getD j 0)).getD i 0 = t.getD i 0 := qz8 g
      have x1 := qhx F ha i; have q := qhy F ha i; have ts := F.tle; have d2 := qy7 F.tmem i
      have ed := d.2
      simp (disch := omega) only [dT, nI, qz9, Bool.and_true, qgp, q0l, Int.toNat_natCast, g2, ed, s2, IH, qhl]
    · have : i = l.length := by omega
      subst this
      simp (disch := omega) only [dF, dT, nI, qz7, Bool.true_and, qgp, q0l, Int.toNat_natCast, qhj]
theorem qc3 (k : Nat) (hk : 2000000 ≤ k) (z1 z2 z3 z4 : Bool) (r : Int) (l : List Cell) (m t b : List Int) (a : Int) (ha : 0 ≤ a ∧ a ≤ 1000) (F : StF r l m t b) :
    go (k + 1) impl_State_decay [.ptr true [.int .i64 (r), .arr true (z1) (.r3 (l)), .arr true (z2) (.ints .i64 (m)), .arr true (z3) (.ints .i64 (t)), .arr true (z4) (.ints .i64 (b))], .int .i64 a] = some [.agg [.int .i64 0, .int .i64 0, .int .i64 0, .int .i64 (deS a l (m, t)).2.ou], .ptr true [.int .i64 (r), .arr true (z1) (.r3 (l)), .arr true (z2) (.ints .i64 (m)), .arr true (z3) (.ints .i64 ((deS a l (m, t)).1.2)), .arr true (z4) (.ints .i64 (b))]] := by
  rw [qjj]
  have ml := F.ml; have tl := F.tl
  have e := qrq k hk [] r z1 l z2 m z3 t z4 b z1 z2 z3 z4 r l m t b a ha F 0 0 0 0 (k + 0) 0 (by omega) (by have := F.len; omega)
  rw [show ((0 : Nat) : Int) = 0 from rfl, show qy4 (deX a t) 0 = 0 from rfl, q0b t l.length tl] at e
  simp (disch := omega) only [nI, tl]
  exact e
end Go.Proofs.YtoldpdhhfmlckaaGreat
end
section
namespace Go.Proofs.YtoldpdhhfmlckaaGreat
open Go.Ev
set_option maxRecDepth 20000
theorem tnz : Int.toNat 0 = 0 := Eq.trans rfl rfl
theorem qdp (k : Nat) (hk : 2000000 ≤ k) (z1 z2 z3 z4 : Bool) (r : Int) (l : List Cell) (m t b : List Int) (i : Nat) (x : Int) (d0 d1 d2 d3 : Int) (h1 : i < m.length) (h2 : i < t.length) (hl : m.length ≤ 1048576) (hx : 0 ≤ x ∧ x ≤ m.getD i 0) (hm : m.getD i 0 ≤ 10000000) (ht : 0 ≤ t.getD i 0 ∧ t.getD i 0 ≤ 10000000000) (hd : 0 ≤ d1 ∧ d1 ≤ 1000000000000) (hd3 : 0 ≤ d3 ∧ d3 ≤ 1000000000000) :
    go (k + 3) impl_State_remove [.ptr true [.int .i64 (r), .arr true (z1) (.r3 (l)), .arr true (z2) (.ints .i64 (m)), .arr true (z3) (.ints .i64 (t)), .arr true (z4) (.ints .i64 (b))], .int .i64 (i : Int), .int .i64 x, .ptr true [.int .i64 d0, .int .i64 d1, .int .i64 d2, .int .i64 d3]] =
      some [.ptr true [.int .i64 (r), .arr true (z1) (.r3 (l)), .arr true (z2) (.ints .i64 (m.set i (m.getD i 0 - x))), .arr true (z3) (.ints .i64 (t.set i (t.getD i 0 - qx7 (t.getD i 0) x (m.getD i 0)))), .arr true (z4) (.ints .i64 (b))], .ptr true [.int .i64 d0, .int .i64 (d1 + x), .int .i64 d2, .int .i64 (d3 + qx7 (t.getD i 0) x (m.getD i 0))]] := by
  rw [qju]
  have s := qx9 (t.getD i 0) x (m.getD i 0)
  simp (disch := omega) only [dT, nI, Bool.and_true, Int.toNat_natCast, qch, q0l, qhl, qa9, nth0, qzu]
theorem qzm {x o : Int} (hx : 0 ≤ x ∧ x ≤ 10000000) (ho : 0 ≤ o ∧ o ≤ 250) : (0 ≤ x * o ∧ x * o ≤ 2500000000) ∧ Int.tdiv (x * o) 1000 = x * o / 1000 := by
  have h1 := Int.mul_nonneg hx.1 ho.1
  have h2 : x * o ≤ x * 250 := Int.mul_le_mul_of_nonneg_left ho.2 hx.1
  exact ⟨⟨h1, by omega⟩, Int.tdiv_eq_ediv_of_nonneg h1⟩
abbrev ldD (x : Ld) : D := .agg [.int .i64 x.mi, .int .i64 x.mo, .int .i64 x.ti, .int .i64 x.ou]
theorem qcx (k : Nat) (hk : 2000000 ≤ k) (z1 z2 z3 z4 : Bool) (r : Int) (l : List Cell) (m t b : List Int) (F : StF r l m t b) (a c o : Int) (ha : 0 ≤ a ∧ a ≤ 10000) (hc : 0 ≤ c ∧ c ≤ 1000) (ho : 0 ≤ o ∧ o ≤ 250) :
    go (k + 4) impl_State_border [.ptr true [.int .i64 (r), .arr true (z1) (.r3 (l)), .arr true (z2) (.ints .i64 (m)), .arr true (z3) (.ints .i64 (t)), .arr true (z4) (.ints .i64 (b))], .agg [.int .i64 a, .int .i64 c, .int .i64 o]] =
      some [ldD (boS a c o (m, t)).2, .ptr true [.int .i64 (r), .arr true (z1) (.r3 (l)), .arr true (z2) (.ints .i64 ((boS a c o (m, t)).1.1)), .arr true (z3) (.ints .i64 ((boS a c o (m, t)).1.2)), .arr true (z4) (.ints .i64 (b))]] := by
  rw [qjh]
  have L := F.len; have ml := F.ml; have tl := F.tl
  have f := F.at (m.length - 1)
  have d := qzm ⟨f.1, f.2.1⟩ ho
  have ed : Int.tdiv (m.getD (m.length - 1) 0 * o) 1000 = boX o m := d.2
  have G := qbb F ho
  have bx := qbd F ho; have bY := qbe F ho; have ip := qoa ha hc
  have eR := qdp k (by omega) z1 z2 z3 z4 r l m t b (m.length - 1) (boX o m) 0 0 0 0 (by omega) (by omega) (by omega) bx f.2.1 ⟨f.2.2.1, by omega⟩ (by omega) (by omega)
  rw [show qx7 (t.getD (m.length - 1) 0) (boX o m) (m.getD (m.length - 1) 0) = boY o m t from rfl] at eR
  unfold boS
  change StF r l (m.set (m.length - 1) (m.getD (m.length - 1) 0 - boX o m)) (t.set (m.length - 1) (t.getD (m.length - 1) 0 - boY o m t)) b ∧ _ at G
  rw [show bo1 o (m, t) = (m.set (m.length - 1) (m.getD (m.length - 1) 0 - boX o m), t.set (m.length - 1) (t.getD (m.length - 1) 0 - boY o m t)) from rfl] at G ⊢
  generalize m.set (m.length - 1) (m.getD (m.length - 1) 0 - boX o m) = M at *
  generalize t.set (m.length - 1) (t.getD (m.length - 1) 0 - boY o m t) = T at *
  obtain ⟨G, g1, g2⟩ := G
  have Ml := G.ml; have Tl := G.tl; have Mf := G.at 0; have Ms := G.msum
  have eS := qdu (k + 2) (by omega) z2 M (by omega) G.mmem
  by_cases h : isum M + a ≤ 10000000
  · rw [if_pos h]
    simp (disch := omega) only [nI, qgo, q0l, dT, Bool.and_true, Int.toNat_natCast, ed, eR, Int.zero_add, Bool.true_and, tnz, qa9, nth0, qu2, qt3, qob, eS, qu3, nth1, qu1, qzu, qu0, quv, qu4, qhl]
    rfl
  · rw [if_neg h]
    simp (disch := omega) only [nI, qgo, q0l, dT, Bool.and_true, Int.toNat_natCast, ed, eR, Int.zero_add, Bool.true_and, qa9, nth0, qu2, qt3, qob, eS, qu3, nth1, qu1, qzu, qu0, quv, qu4, qhl, dF, qhj]
theorem qrr (k : Nat) (hk : 2000000 ≤ k) (fu : List (Nat × Nat)) (a0 : Int) (a1z : Bool) (a1 : List Cell) (a2z : Bool) (a2 : List Int) (a3z : Bool) (a3 : List Int) (a4z : Bool) (a4 : List Int) (z1 z2 z3 z4 : Bool) (r : Int) (l : List Cell) (b : List Int) : ∀ (N n i : Nat) (s : S2), i + n = 16 → n < N → StF r l s.1 s.2 b →
    lp (k + 6) impl_State_macro [(.ptr true [(.int .i64 (a0)), (.arr true (a1z) (.r3 (a1))), (.arr true (a2z) (.ints .i64 (a2))), (.arr true (a3z) (.ints .i64 (a3))), (.arr true (a4z) (.ints .i64 (a4)))])] fu 1 (N) (qwf (i : Int) z1 l z2 s.1 z3 s.2 z4 b r) = some [.ptr true [.int .i64 (r), .arr true (z1) (.r3 (l)), .arr true (z2) (.ints .i64 ((qzp l b n i s).1)), .arr true (z3) (.ints .i64 ((qzp l b n i s).2)), .arr true (z4) (.ints .i64 (b))]]
  | 0, n, i, s, hi, hN, F => by omega
  | N + 1, 0, i, s, hi, hN, F => by
    rw [qo5]
    have : i = 16 := by omega
    subst this
    simp (disch := omega) only [dF, qgp, q0l, qhj]; rfl
  | N + 1, n + 1, i, s, hi, hN, F => by
    rw [qo5]
    have L := F.len
    have IH := qrr k hk fu a0 a1z a1 a2z a2 a3z a3 a4z a4 z1 z2 z3 z4 r l b N n (i + 1) (tick l b i s) (by omega) (by omega) (qyz F i)
    have eA := qcu (k + 1) (by omega) r z1 l (i : Int) (by omega) (by omega)
    have eM := qdj k (by omega) z1 z2 z3 z4 false r l s.1 s.2 b (i : Int) F
    unfold qzp
    simp only [tick] at IH
    simp (disch := omega) only [dT, eA, qgp, q0l, qa9, nth0, qt3, qob, eM, qu1, quv, qu2, qu3, qu4, qu0, qzu, IH, qhl]
    rfl
theorem qdh (k : Nat) (hk : 2000000 ≤ k) (z1 z2 z3 z4 : Bool) (r : Int) (l : List Cell) (m t b : List Int) (F : StF r l m t b) :
    go (k + 7) impl_State_macro [.ptr true [.int .i64 (r), .arr true (z1) (.r3 (l)), .arr true (z2) (.ints .i64 (m)), .arr true (z3) (.ints .i64 (t)), .arr true (z4) (.ints .i64 (b))]] = some [.ptr true [.int .i64 (r), .arr true (z1) (.r3 (l)), .arr true (z2) (.ints .i64 ((qzp l b 16 0 (m, t)).1)), .arr true (z3) (.ints .i64 ((qzp l b 16 0 (m, t)).2)), .arr true (z4) (.ints .i64 (b))]] := by
  rw [qjo]
  exact qrr k hk [] r z1 l z2 m z3 t z4 b z1 z2 z3 z4 r l b (k + 6) 16 0 (m, t) rfl (by omega) F
theorem qb5 (k : Nat) (x y : Ld) (h1 : 0 ≤ x.mi + y.mi ∧ x.mi + y.mi ≤ 1000000000000000000) (h2 : 0 ≤ x.mo + y.mo ∧ x.mo + y.mo ≤ 1000000000000000000) (h3 : 0 ≤ x.ti + y.ti ∧ x.ti + y.ti ≤ 1000000000000000000) (h4 : 0 ≤ x.ou + y.ou ∧ x.ou + y.ou ≤ 1000000000000000000) :
    go (k + 1) impl_LedgerAdd [ldD x, ldD y] = some [ldD (x.add y)] := by
  rw [qis]
  simp (disch := omega) only [q0l]
  rfl
end Go.Proofs.YtoldpdhhfmlckaaGreat
end
