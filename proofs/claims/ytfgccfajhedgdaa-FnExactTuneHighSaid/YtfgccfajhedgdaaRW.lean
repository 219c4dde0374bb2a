/- slices.Replace, walked: each road, over worlds that the runs of its builtins hand on. Made by rw.py. -/
import Derived.Test.YtfgccfajhedgdaaRB
import Derived.Test.YtfgccfajhedgdaaProg
import Derived.WalkKit
import Derived.KernelRfl
import Derived.Deep.QuietTactic
import Derived.BigQuiet
set_option linter.unusedVariables false
set_option linter.unusedSimpArgs false
namespace Go.Proofs.Ytfgccfajhedgdaa
open Go.RowKit Go.Lib Go.Ev Go.Shelf
def SomeQ (Q : Nat → Ending → World → Prop) (en : Ending) (w' : World) : Prop := ∃ q, Q q en w'

theorem iE_int : (Try.prog.info? 3).map (fun i => (i.zero, i.size, i.bytes)) = some (some (.int .i64 0), 1, 8) := by kernel_rfl
theorem sz_int : (Try.prog.info? 3).map (·.size) = some 1 := by kernel_rfl
theorem uS_int : Try.prog.underlying 25 = some (.slice 3) := by kernel_rfl
theorem su_int : ∀ w, (Go.sizeOf 3).run Try.prog w = .ok 1 w := fun w => by
  obtain ⟨i0, hi, h0, h1, h2⟩ := info_parts iE_int
  simp [Go.sizeOf, typeInfo, hi, h1]

set_option maxHeartbeats 4000000 in
set_option maxRecDepth 100000 in
theorem rep_end_int (g n c i j m vc c1 : Nat) (a b1 : Addr) (w w1 : World) (hij : i < j) (hj : j = n) (hnc : n ≤ c) (hn : n ≤ 1099511627776) (hc : c ≤ 9223372036854775807) (hm : n ≤ i + m) (hmb : m ≤ 1099511627776)
    (hr : (Builtin.append_ #[25, 25] 25 #[.slice (some ⟨g, 0, none⟩) i c, .slice (some a) m vc]).run Try.prog w = .ok (.slice (some b1) (i + m) c1) w1) :
    Calls Try.prog 207 #[.slice (some ⟨g, 0, none⟩) n c, .int .i64 i, .int .i64 j, .slice (some a) m vc] w fun en w' => en = .returned (.slice (some b1) (i + m) c1) ∧ w' = w1 := by
  subst hj
  have t0 := uS_int
  have hz1 : ¬ ((i : Int) = (j : Int)) := by omega
  have hb6 : j ≤ j := by omega
  have hb7 : (j : Int) ≤ (j : Int) := by omega
  have mixed : Try.prog.follows Departure.mixedOrders = true := by kernel_rfl
  have hlen : IntKind.i64.wrap ((i : Int) + (m : Int)) = (i : Int) + (m : Int) := by rw [IntKind.wrap_i64]; omega
  have hb1 : (0 : Int) ≤ (i : Int) + (m : Int) := by omega
  have htn : ((i : Int) + (m : Int)).toNat = i + m := by omega
  have hb8 : ¬ ((i + m : Nat) < j) := by omega
  go_enter Try.func207, Try.ntmps207
  go_wp2_with (at_builtin; refine Lib.wpList_append_run _ rfl _ _ _ _ rfl _ _ rfl rfl _ _ hr ?_)
  go_ret
  exact ⟨rfl, rfl⟩
set_option maxHeartbeats 4000000 in
set_option maxRecDepth 100000 in
theorem rep_cut_int (g n c i j m vc c1 : Nat) (a b1 : Addr) (w w1 w2 : World) (hij : i < j) (hj : j = n) (hnc : n ≤ c) (hn : n ≤ 1099511627776) (hc : c ≤ 9223372036854775807) (hm : i + m < n) (hmb : m ≤ 1099511627776)
    (hr : (Builtin.append_ #[25, 25] 25 #[.slice (some ⟨g, 0, none⟩) i c, .slice (some a) m vc]).run Try.prog w = .ok (.slice (some b1) (i + m) c1) w1)
    (hk : ∀ ty kc, (Builtin.clear_ #[25] ty #[.slice (some ⟨g, i + m, none⟩) (n - (i + m)) kc]).run Try.prog w1 = .ok (.tuple #[]) w2) :
    Calls Try.prog 207 #[.slice (some ⟨g, 0, none⟩) n c, .int .i64 i, .int .i64 j, .slice (some a) m vc] w fun en w' => en = .returned (.slice (some b1) (i + m) c1) ∧ w' = w2 := by
  subst hj
  have t0 := uS_int
  have hz1 : ¬ ((i : Int) = (j : Int)) := by omega
  have hb6 : j ≤ j := by omega
  have hb7 : (j : Int) ≤ (j : Int) := by omega
  have mixed : Try.prog.follows Departure.mixedOrders = true := by kernel_rfl
  have hlen : IntKind.i64.wrap ((i : Int) + (m : Int)) = (i : Int) + (m : Int) := by rw [IntKind.wrap_i64]; omega
  have hb1 : (0 : Int) ≤ (i : Int) + (m : Int) := by omega
  have htn : ((i : Int) + (m : Int)).toNat = i + m := by omega
  have hb8 : (i + m : Nat) < j := by omega
  have hb9 : ¬ (c = i + m) := by omega
  go_enter Try.func207, Try.ntmps207
  go_wp2_with (at_builtin; refine Lib.wpList_append_run _ rfl _ _ _ _ rfl _ _ rfl rfl _ _ hr ?_)
  go_ret
  exact ⟨rfl, rfl⟩
set_option maxHeartbeats 4000000 in
set_option maxRecDepth 100000 in
theorem rep_room_int (g n c i j m vc : Nat) (a : Addr) (w : World) (W1 W2 : Nat → World) (hij : i < j) (hj : j < n) (hnc : n ≤ c) (hn : n ≤ 1099511627776) (hc : c ≤ 9223372036854775807) (hm : j < i + m) (hmb : m ≤ 1099511627776) (hroom : i + m + (n - j) ≤ c)
    (hov : ∀ q lb cb, (callFunc 221 #[.slice (some ⟨g, i + m, none⟩) lb cb, .slice (some a) m vc]).run Try.prog (w.drewN q) = .ok (.value (.bool false)) (w.drewN q))
    (hcpa : ∀ q ty dc sc, (Builtin.copy_ #[25, 25] ty #[.slice (some ⟨g, i + m, none⟩) (n - j) dc, .slice (some ⟨g, j, none⟩) (n - j) sc]).run Try.prog (w.drewN q) = .ok (goInt (n - j : Nat)) (W1 q))
    (hcpb : ∀ q ty dc, (Builtin.copy_ #[25, 25] ty #[.slice (some ⟨g, i, none⟩) (i + m + (n - j) - i) dc, .slice (some a) m vc]).run Try.prog (W1 q) = .ok (goInt m) (W2 q)) :
    Calls Try.prog 207 #[.slice (some ⟨g, 0, none⟩) n c, .int .i64 i, .int .i64 j, .slice (some a) m vc] w (SomeQ fun q en w' => en = .returned (.slice (some ⟨g, 0, none⟩) (i + m + (n - j)) c) ∧ w' = W2 q) := by
  have t0 := uS_int
  have hz1 : ¬ ((i : Int) = (j : Int)) := by omega
  have hb6 : j ≤ n := by omega
  have hb7 : (j : Int) ≤ (n : Int) := by omega
  have mixed : Try.prog.follows Departure.mixedOrders = true := by kernel_rfl
  have hlen : IntKind.i64.wrap ((i : Int) + (m : Int)) = (i : Int) + (m : Int) := by rw [IntKind.wrap_i64]; omega
  have hb1 : (0 : Int) ≤ (i : Int) + (m : Int) := by omega
  have htn : ((i : Int) + (m : Int)).toNat = i + m := by omega
  have hz2 : ¬ ((j : Int) = (n : Int)) := by omega
  have hci : ¬ (c = i) := by omega
  have hcj : ¬ (c = j) := by omega
  have hw0 : IntKind.i64.wrap ((i : Int) + (m : Int) + ((n - j : Nat) : Int)) = (i : Int) + (m : Int) + ((n - j : Nat) : Int) := by rw [IntKind.wrap_i64]; omega
  have hb3 : (i : Int) + (m : Int) ≤ (i : Int) + (m : Int) + ((n - j : Nat) : Int) := by omega
  have hb4 : (i : Int) ≤ (i : Int) + (m : Int) + ((n - j : Nat) : Int) := by omega
  have hcm : ¬ (c = i + m) := by omega
  go_enter Try.func207, Try.ntmps207
  go_wp2_with fail
  go_quiet (fail)
  go_wp2_with (simp only [hov])
  go_region_law_o (fail)
  go_wp2
  go_ret
  exact ⟨_, rfl, rfl⟩
set_option maxHeartbeats 4000000 in
set_option maxRecDepth 100000 in
theorem rep_less_int (g n c i j m vc : Nat) (a : Addr) (w : World) (W1 W2 W3 : Nat → World) (hij : i < j) (hj : j < n) (hnc : n ≤ c) (hn : n ≤ 1099511627776) (hc : c ≤ 9223372036854775807) (hm : i + m < j) (hmb : m ≤ 1099511627776)
    (hcpa : ∀ q ty dc, (Builtin.copy_ #[25, 25] ty #[.slice (some ⟨g, i, none⟩) (i + m + (n - j) - i) dc, .slice (some a) m vc]).run Try.prog (w.drewN q) = .ok (goInt m) (W1 q))
    (hcpb : ∀ q ty dc sc, (Builtin.copy_ #[25, 25] ty #[.slice (some ⟨g, i + m, none⟩) (n - j) dc, .slice (some ⟨g, j, none⟩) (n - j) sc]).run Try.prog (W1 q).drew = .ok (goInt (n - j : Nat)) (W2 q))
    (hk : ∀ q ty kc, (Builtin.clear_ #[25] ty #[.slice (some ⟨g, i + m + (n - j), none⟩) (n - (i + m + (n - j))) kc]).run Try.prog (W2 q) = .ok (.tuple #[]) (W3 q)) :
    Calls Try.prog 207 #[.slice (some ⟨g, 0, none⟩) n c, .int .i64 i, .int .i64 j, .slice (some a) m vc] w (SomeQ fun q en w' => en = .returned (.slice (some ⟨g, 0, none⟩) (i + m + (n - j)) c) ∧ w' = W3 q) := by
  have t0 := uS_int
  have hz1 : ¬ ((i : Int) = (j : Int)) := by omega
  have hb6 : j ≤ n := by omega
  have hb7 : (j : Int) ≤ (n : Int) := by omega
  have mixed : Try.prog.follows Departure.mixedOrders = true := by kernel_rfl
  have hlen : IntKind.i64.wrap ((i : Int) + (m : Int)) = (i : Int) + (m : Int) := by rw [IntKind.wrap_i64]; omega
  have hb1 : (0 : Int) ≤ (i : Int) + (m : Int) := by omega
  have htn : ((i : Int) + (m : Int)).toNat = i + m := by omega
  have hz2 : ¬ ((j : Int) = (n : Int)) := by omega
  have hci : ¬ (c = i) := by omega
  have hcj : ¬ (c = j) := by omega
  have hw0 : IntKind.i64.wrap ((i : Int) + (m : Int) + ((n - j : Nat) : Int)) = (i : Int) + (m : Int) + ((n - j : Nat) : Int) := by rw [IntKind.wrap_i64]; omega
  have hb3 : (i : Int) + (m : Int) ≤ (i : Int) + (m : Int) + ((n - j : Nat) : Int) := by omega
  have hb4 : (i : Int) ≤ (i : Int) + (m : Int) + ((n - j : Nat) : Int) := by omega
  have hcm : ¬ (c = i + m) := by omega
  have hct : ¬ (c = i + m + (n - j)) := by omega
  have htt : ((i : Int) + (m : Int) + ((n - j : Nat) : Int)).toNat = i + m + (n - j) := by omega
  have hb8 : (i : Int) + (m : Int) + ((n - j : Nat) : Int) ≤ (n : Int) := by omega
  go_enter Try.func207, Try.ntmps207
  go_wp2_with fail
  go_quiet (fail)
  go_wp2
  go_region_law_o (fail)
  go_wp2
  go_ret
  exact ⟨_, rfl, rfl⟩
set_option maxHeartbeats 4000000 in
set_option maxRecDepth 100000 in
theorem rep_new_int (g n c i j m vc N : Nat) (a : Addr) (w : World) (G : Nat → Nat) (W1 W2 W3 : Nat → World) (hij : i < j) (hj : j < n) (hnc : n ≤ c) (hn : n ≤ 1099511627776) (hc : c ≤ 9223372036854775807) (hmb : m ≤ 1099511627776) (hroom : c < i + m + (n - j)) (hG : ∀ q, i + m + (n - j) ≤ G q)
    (hr : ∀ q, (Builtin.append_ #[25, 3] 25 #[.slice (some ⟨g, 0, none⟩) i c, .int .i64 ((i : Int) + (m : Int) + ((n - j : Nat) : Int) - (i : Int))]).run Try.prog (w.drewN q) = .ok (.slice (some ⟨N, 0, none⟩) (i + m + (n - j)) (G q)) (W1 q))
    (hcpa : ∀ q ty dc, (Builtin.copy_ #[25, 25] ty #[.slice (some ⟨N, i, none⟩) (i + m + (n - j) - i) dc, .slice (some a) m vc]).run Try.prog (W1 q) = .ok (goInt m) (W2 q))
    (hcpb : ∀ q ty dc sc, (Builtin.copy_ #[25, 25] ty #[.slice (some ⟨N, i + m, none⟩) (n - j) dc, .slice (some ⟨g, j, none⟩) (n - j) sc]).run Try.prog (W2 q).drew = .ok (goInt (n - j : Nat)) (W3 q)) :
    Calls Try.prog 207 #[.slice (some ⟨g, 0, none⟩) n c, .int .i64 i, .int .i64 j, .slice (some a) m vc] w (SomeQ fun q en w' => en = .returned (.slice (some ⟨N, 0, none⟩) (i + m + (n - j)) (G q)) ∧ w' = W3 q) := by
  have t0 := uS_int
  have hz1 : ¬ ((i : Int) = (j : Int)) := by omega
  have hb6 : j ≤ n := by omega
  have hb7 : (j : Int) ≤ (n : Int) := by omega
  have mixed : Try.prog.follows Departure.mixedOrders = true := by kernel_rfl
  have hlen : IntKind.i64.wrap ((i : Int) + (m : Int)) = (i : Int) + (m : Int) := by rw [IntKind.wrap_i64]; omega
  have hb1 : (0 : Int) ≤ (i : Int) + (m : Int) := by omega
  have htn : ((i : Int) + (m : Int)).toNat = i + m := by omega
  have hz2 : ¬ ((j : Int) = (n : Int)) := by omega
  have hci : ¬ (c = i) := by omega
  have hcj : ¬ (c = j) := by omega
  have hw0 : IntKind.i64.wrap ((i : Int) + (m : Int) + ((n - j : Nat) : Int)) = (i : Int) + (m : Int) + ((n - j : Nat) : Int) := by rw [IntKind.wrap_i64]; omega
  have hb3 : (i : Int) + (m : Int) ≤ (i : Int) + (m : Int) + ((n - j : Nat) : Int) := by omega
  have hb4 : (i : Int) ≤ (i : Int) + (m : Int) + ((n - j : Nat) : Int) := by omega
  have hgi : ∀ q, ¬ (G q = i) := fun q => by have := hG q; omega
  have hgm : ∀ q, ¬ (G q = i + m) := fun q => by have := hG q; omega
  have hw2 : IntKind.i64.wrap ((i : Int) + (m : Int) + ((n - j : Nat) : Int) - (i : Int)) = (i : Int) + (m : Int) + ((n - j : Nat) : Int) - (i : Int) := by rw [IntKind.wrap_i64]; omega
  go_enter Try.func207, Try.ntmps207
  go_wp2_with fail
  go_quiet (fail)
  go_wp2_with (at_builtin; refine Lib.wpList_append_run _ rfl _ _ _ _ rfl _ _ rfl rfl _ _ (hr _) ?_)
  go_region_law_o (fail)
  go_wp2
  go_ret
  exact ⟨_, rfl, rfl⟩

theorem iE_id : (Try.prog.info? 122).map (fun i => (i.zero, i.size, i.bytes)) = some (some (.agg #[.int .i64 0, .int .i64 0, .int .i64 0]), 3, 24) := by kernel_rfl
theorem sz_id : (Try.prog.info? 122).map (·.size) = some 3 := by kernel_rfl
theorem uS_id : Try.prog.underlying 29 = some (.slice 122) := by kernel_rfl
theorem su_id : ∀ w, (Go.sizeOf 122).run Try.prog w = .ok 3 w := fun w => by
  obtain ⟨i0, hi, h0, h1, h2⟩ := info_parts iE_id
  simp [Go.sizeOf, typeInfo, hi, h1]

set_option maxHeartbeats 4000000 in
set_option maxRecDepth 100000 in
theorem rep_end_id (g n c i j m vc c1 : Nat) (a b1 : Addr) (w w1 : World) (hij : i < j) (hj : j = n) (hnc : n ≤ c) (hn : n ≤ 1099511627776) (hc : c ≤ 9223372036854775807) (hm : n ≤ i + m) (hmb : m ≤ 1099511627776)
    (hr : (Builtin.append_ #[29, 29] 29 #[.slice (some ⟨g, 0, none⟩) i c, .slice (some a) m vc]).run Try.prog w = .ok (.slice (some b1) (i + m) c1) w1) :
    Calls Try.prog 218 #[.slice (some ⟨g, 0, none⟩) n c, .int .i64 i, .int .i64 j, .slice (some a) m vc] w fun en w' => en = .returned (.slice (some b1) (i + m) c1) ∧ w' = w1 := by
  subst hj
  have t0 := uS_id
  have hz1 : ¬ ((i : Int) = (j : Int)) := by omega
  have hb6 : j ≤ j := by omega
  have hb7 : (j : Int) ≤ (j : Int) := by omega
  have mixed : Try.prog.follows Departure.mixedOrders = true := by kernel_rfl
  have hlen : IntKind.i64.wrap ((i : Int) + (m : Int)) = (i : Int) + (m : Int) := by rw [IntKind.wrap_i64]; omega
  have hb1 : (0 : Int) ≤ (i : Int) + (m : Int) := by omega
  have htn : ((i : Int) + (m : Int)).toNat = i + m := by omega
  have hb8 : ¬ ((i + m : Nat) < j) := by omega
  go_enter Try.func218, Try.ntmps218
  go_wp2_with (at_builtin; refine Lib.wpList_append_run _ rfl _ _ _ _ rfl _ _ rfl rfl _ _ hr ?_)
  go_ret
  exact ⟨rfl, rfl⟩
set_option maxHeartbeats 4000000 in
set_option maxRecDepth 100000 in
theorem rep_cut_id (g n c i j m vc c1 : Nat) (a b1 : Addr) (w w1 w2 : World) (hij : i < j) (hj : j = n) (hnc : n ≤ c) (hn : n ≤ 1099511627776) (hc : c ≤ 9223372036854775807) (hm : i + m < n) (hmb : m ≤ 1099511627776)
    (hr : (Builtin.append_ #[29, 29] 29 #[.slice (some ⟨g, 0, none⟩) i c, .slice (some a) m vc]).run Try.prog w = .ok (.slice (some b1) (i + m) c1) w1)
    (hk : ∀ ty kc, (Builtin.clear_ #[29] ty #[.slice (some ⟨g, (i + m) * 3, none⟩) (n - (i + m)) kc]).run Try.prog w1 = .ok (.tuple #[]) w2) :
    Calls Try.prog 218 #[.slice (some ⟨g, 0, none⟩) n c, .int .i64 i, .int .i64 j, .slice (some a) m vc] w fun en w' => en = .returned (.slice (some b1) (i + m) c1) ∧ w' = w2 := by
  subst hj
  have t0 := uS_id
  have hz1 : ¬ ((i : Int) = (j : Int)) := by omega
  have hb6 : j ≤ j := by omega
  have hb7 : (j : Int) ≤ (j : Int) := by omega
  have mixed : Try.prog.follows Departure.mixedOrders = true := by kernel_rfl
  have hlen : IntKind.i64.wrap ((i : Int) + (m : Int)) = (i : Int) + (m : Int) := by rw [IntKind.wrap_i64]; omega
  have hb1 : (0 : Int) ≤ (i : Int) + (m : Int) := by omega
  have htn : ((i : Int) + (m : Int)).toNat = i + m := by omega
  have hb8 : (i + m : Nat) < j := by omega
  have hb9 : ¬ (c = i + m) := by omega
  go_enter Try.func218, Try.ntmps218
  go_wp2_with (at_builtin; refine Lib.wpList_append_run _ rfl _ _ _ _ rfl _ _ rfl rfl _ _ hr ?_)
  go_ret
  exact ⟨rfl, rfl⟩
set_option maxHeartbeats 4000000 in
set_option maxRecDepth 100000 in
theorem rep_room_id (g n c i j m vc : Nat) (a : Addr) (w : World) (W1 W2 : Nat → World) (hij : i < j) (hj : j < n) (hnc : n ≤ c) (hn : n ≤ 1099511627776) (hc : c ≤ 9223372036854775807) (hm : j < i + m) (hmb : m ≤ 1099511627776) (hroom : i + m + (n - j) ≤ c)
    (hov : ∀ q lb cb, (callFunc 227 #[.slice (some ⟨g, (i + m) * 3, none⟩) lb cb, .slice (some a) m vc]).run Try.prog (w.drewN q) = .ok (.value (.bool false)) (w.drewN q))
    (hcpa : ∀ q ty dc sc, (Builtin.copy_ #[29, 29] ty #[.slice (some ⟨g, (i + m) * 3, none⟩) (n - j) dc, .slice (some ⟨g, (j) * 3, none⟩) (n - j) sc]).run Try.prog (w.drewN q) = .ok (goInt (n - j : Nat)) (W1 q))
    (hcpb : ∀ q ty dc, (Builtin.copy_ #[29, 29] ty #[.slice (some ⟨g, (i) * 3, none⟩) (i + m + (n - j) - i) dc, .slice (some a) m vc]).run Try.prog (W1 q) = .ok (goInt m) (W2 q)) :
    Calls Try.prog 218 #[.slice (some ⟨g, 0, none⟩) n c, .int .i64 i, .int .i64 j, .slice (some a) m vc] w (SomeQ fun q en w' => en = .returned (.slice (some ⟨g, 0, none⟩) (i + m + (n - j)) c) ∧ w' = W2 q) := by
  have t0 := uS_id
  have hz1 : ¬ ((i : Int) = (j : Int)) := by omega
  have hb6 : j ≤ n := by omega
  have hb7 : (j : Int) ≤ (n : Int) := by omega
  have mixed : Try.prog.follows Departure.mixedOrders = true := by kernel_rfl
  have hlen : IntKind.i64.wrap ((i : Int) + (m : Int)) = (i : Int) + (m : Int) := by rw [IntKind.wrap_i64]; omega
  have hb1 : (0 : Int) ≤ (i : Int) + (m : Int) := by omega
  have htn : ((i : Int) + (m : Int)).toNat = i + m := by omega
  have hz2 : ¬ ((j : Int) = (n : Int)) := by omega
  have hci : ¬ (c = i) := by omega
  have hcj : ¬ (c = j) := by omega
  have hw0 : IntKind.i64.wrap ((i : Int) + (m : Int) + ((n - j : Nat) : Int)) = (i : Int) + (m : Int) + ((n - j : Nat) : Int) := by rw [IntKind.wrap_i64]; omega
  have hb3 : (i : Int) + (m : Int) ≤ (i : Int) + (m : Int) + ((n - j : Nat) : Int) := by omega
  have hb4 : (i : Int) ≤ (i : Int) + (m : Int) + ((n - j : Nat) : Int) := by omega
  have hcm : ¬ (c = i + m) := by omega
  go_enter Try.func218, Try.ntmps218
  go_wp2_with fail
  go_quiet (fail)
  go_wp2_with (simp only [hov])
  go_region_law_o (fail)
  go_wp2
  go_ret
  exact ⟨_, rfl, rfl⟩
set_option maxHeartbeats 4000000 in
set_option maxRecDepth 100000 in
theorem rep_less_id (g n c i j m vc : Nat) (a : Addr) (w : World) (W1 W2 W3 : Nat → World) (hij : i < j) (hj : j < n) (hnc : n ≤ c) (hn : n ≤ 1099511627776) (hc : c ≤ 9223372036854775807) (hm : i + m < j) (hmb : m ≤ 1099511627776)
    (hcpa : ∀ q ty dc, (Builtin.copy_ #[29, 29] ty #[.slice (some ⟨g, (i) * 3, none⟩) (i + m + (n - j) - i) dc, .slice (some a) m vc]).run Try.prog (w.drewN q) = .ok (goInt m) (W1 q))
    (hcpb : ∀ q ty dc sc, (Builtin.copy_ #[29, 29] ty #[.slice (some ⟨g, (i + m) * 3, none⟩) (n - j) dc, .slice (some ⟨g, (j) * 3, none⟩) (n - j) sc]).run Try.prog (W1 q).drew = .ok (goInt (n - j : Nat)) (W2 q))
    (hk : ∀ q ty kc, (Builtin.clear_ #[29] ty #[.slice (some ⟨g, (i + m + (n - j)) * 3, none⟩) (n - (i + m + (n - j))) kc]).run Try.prog (W2 q) = .ok (.tuple #[]) (W3 q)) :
    Calls Try.prog 218 #[.slice (some ⟨g, 0, none⟩) n c, .int .i64 i, .int .i64 j, .slice (some a) m vc] w (SomeQ fun q en w' => en = .returned (.slice (some ⟨g, 0, none⟩) (i + m + (n - j)) c) ∧ w' = W3 q) := by
  have t0 := uS_id
  have hz1 : ¬ ((i : Int) = (j : Int)) := by omega
  have hb6 : j ≤ n := by omega
  have hb7 : (j : Int) ≤ (n : Int) := by omega
  have mixed : Try.prog.follows Departure.mixedOrders = true := by kernel_rfl
  have hlen : IntKind.i64.wrap ((i : Int) + (m : Int)) = (i : Int) + (m : Int) := by rw [IntKind.wrap_i64]; omega
  have hb1 : (0 : Int) ≤ (i : Int) + (m : Int) := by omega
  have htn : ((i : Int) + (m : Int)).toNat = i + m := by omega
  have hz2 : ¬ ((j : Int) = (n : Int)) := by omega
  have hci : ¬ (c = i) := by omega
  have hcj : ¬ (c = j) := by omega
  have hw0 : IntKind.i64.wrap ((i : Int) + (m : Int) + ((n - j : Nat) : Int)) = (i : Int) + (m : Int) + ((n - j : Nat) : Int) := by rw [IntKind.wrap_i64]; omega
  have hb3 : (i : Int) + (m : Int) ≤ (i : Int) + (m : Int) + ((n - j : Nat) : Int) := by omega
  have hb4 : (i : Int) ≤ (i : Int) + (m : Int) + ((n - j : Nat) : Int) := by omega
  have hcm : ¬ (c = i + m) := by omega
  have hct : ¬ (c = i + m + (n - j)) := by omega
  have htt : ((i : Int) + (m : Int) + ((n - j : Nat) : Int)).toNat = i + m + (n - j) := by omega
  have hb8 : (i : Int) + (m : Int) + ((n - j : Nat) : Int) ≤ (n : Int) := by omega
  go_enter Try.func218, Try.ntmps218
  go_wp2_with fail
  go_quiet (fail)
  go_wp2
  go_region_law_o (fail)
  go_wp2
  go_ret
  exact ⟨_, rfl, rfl⟩
set_option maxHeartbeats 4000000 in
set_option maxRecDepth 100000 in
theorem rep_new_id (g n c i j m vc N : Nat) (a : Addr) (w : World) (G : Nat → Nat) (W1 W2 W3 : Nat → World) (hij : i < j) (hj : j < n) (hnc : n ≤ c) (hn : n ≤ 1099511627776) (hc : c ≤ 9223372036854775807) (hmb : m ≤ 1099511627776) (hroom : c < i + m + (n - j)) (hG : ∀ q, i + m + (n - j) ≤ G q)
    (hr : ∀ q, (Builtin.append_ #[29, 3] 29 #[.slice (some ⟨g, 0, none⟩) i c, .int .i64 ((i : Int) + (m : Int) + ((n - j : Nat) : Int) - (i : Int))]).run Try.prog (w.drewN q) = .ok (.slice (some ⟨N, 0, none⟩) (i + m + (n - j)) (G q)) (W1 q))
    (hcpa : ∀ q ty dc, (Builtin.copy_ #[29, 29] ty #[.slice (some ⟨N, (i) * 3, none⟩) (i + m + (n - j) - i) dc, .slice (some a) m vc]).run Try.prog (W1 q) = .ok (goInt m) (W2 q))
    (hcpb : ∀ q ty dc sc, (Builtin.copy_ #[29, 29] ty #[.slice (some ⟨N, (i + m) * 3, none⟩) (n - j) dc, .slice (some ⟨g, (j) * 3, none⟩) (n - j) sc]).run Try.prog (W2 q).drew = .ok (goInt (n - j : Nat)) (W3 q)) :
    Calls Try.prog 218 #[.slice (some ⟨g, 0, none⟩) n c, .int .i64 i, .int .i64 j, .slice (some a) m vc] w (SomeQ fun q en w' => en = .returned (.slice (some ⟨N, 0, none⟩) (i + m + (n - j)) (G q)) ∧ w' = W3 q) := by
  have t0 := uS_id
  have hz1 : ¬ ((i : Int) = (j : Int)) := by omega
  have hb6 : j ≤ n := by omega
  have hb7 : (j : Int) ≤ (n : Int) := by omega
  have mixed : Try.prog.follows Departure.mixedOrders = true := by kernel_rfl
  have hlen : IntKind.i64.wrap ((i : Int) + (m : Int)) = (i : Int) + (m : Int) := by rw [IntKind.wrap_i64]; omega
  have hb1 : (0 : Int) ≤ (i : Int) + (m : Int) := by omega
  have htn : ((i : Int) + (m : Int)).toNat = i + m := by omega
  have hz2 : ¬ ((j : Int) = (n : Int)) := by omega
  have hci : ¬ (c = i) := by omega
  have hcj : ¬ (c = j) := by omega
  have hw0 : IntKind.i64.wrap ((i : Int) + (m : Int) + ((n - j : Nat) : Int)) = (i : Int) + (m : Int) + ((n - j : Nat) : Int) := by rw [IntKind.wrap_i64]; omega
  have hb3 : (i : Int) + (m : Int) ≤ (i : Int) + (m : Int) + ((n - j : Nat) : Int) := by omega
  have hb4 : (i : Int) ≤ (i : Int) + (m : Int) + ((n - j : Nat) : Int) := by omega
  have hgi : ∀ q, ¬ (G q = i) := fun q => by have := hG q; omega
  have hgm : ∀ q, ¬ (G q = i + m) := fun q => by have := hG q; omega
  have hw2 : IntKind.i64.wrap ((i : Int) + (m : Int) + ((n - j : Nat) : Int) - (i : Int)) = (i : Int) + (m : Int) + ((n - j : Nat) : Int) - (i : Int) := by rw [IntKind.wrap_i64]; omega
  go_enter Try.func218, Try.ntmps218
  go_wp2_with fail
  go_quiet (fail)
  go_wp2_with (at_builtin; refine Lib.wpList_append_run _ rfl _ _ _ _ rfl _ _ rfl rfl _ _ (hr _) ?_)
  go_region_law_o (fail)
  go_wp2
  go_ret
  exact ⟨_, rfl, rfl⟩
end Go.Proofs.Ytfgccfajhedgdaa
