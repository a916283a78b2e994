/-
  THE WALK of AluSwaps: numbers' bytes are turned as the document says; twice they are its lowest bits; a number with its sign's bit in front.
-/
import Derived.Test.YtdpnhpennceldaaTurns
namespace Go.Proofs.Ytdpnhpennceldaa
open Go.RowKit M
set_option linter.unusedVariables false
theorem rturnc_16 (x r : Nat) (w : World) (hx : x < 2 ^ 64) (hr : Hid (turnN 2 x = r)) :
    Calls Try.prog 16 #[.int .i64 16, .int .u64 x] w fun e w' => e = .returned (.tuple #[.int .u64 (r : Nat), .bool true]) ∧ w = w' := by
  have := hr.out
  subst this
  exact rturn_16 x w hx
theorem rswapc_16 (x r : Nat) (w : World) (hx : x < 2 ^ 64) (hr : Hid (turnN 2 x = r)) :
    Calls Try.prog 14 #[.int .i64 16, .bool true, .int .u64 x] w fun e w' => e = .returned (.tuple #[.int .u64 (r : Nat), .bool true]) ∧ w = w' := by
  have := hr.out
  subst this
  exact rswap_16_true x w hx
theorem rturnc_32 (x r : Nat) (w : World) (hx : x < 2 ^ 64) (hr : Hid (turnN 4 x = r)) :
    Calls Try.prog 16 #[.int .i64 32, .int .u64 x] w fun e w' => e = .returned (.tuple #[.int .u64 (r : Nat), .bool true]) ∧ w = w' := by
  have := hr.out
  subst this
  exact rturn_32 x w hx
theorem rswapc_32 (x r : Nat) (w : World) (hx : x < 2 ^ 64) (hr : Hid (turnN 4 x = r)) :
    Calls Try.prog 14 #[.int .i64 32, .bool true, .int .u64 x] w fun e w' => e = .returned (.tuple #[.int .u64 (r : Nat), .bool true]) ∧ w = w' := by
  have := hr.out
  subst this
  exact rswap_32_true x w hx
theorem rturnc_64 (x r : Nat) (w : World) (hx : x < 2 ^ 64) (hr : Hid (turnN 8 x = r)) :
    Calls Try.prog 16 #[.int .i64 64, .int .u64 x] w fun e w' => e = .returned (.tuple #[.int .u64 (r : Nat), .bool true]) ∧ w = w' := by
  have := hr.out
  subst this
  exact rturn_64 x w hx
theorem rswapc_64 (x r : Nat) (w : World) (hx : x < 2 ^ 64) (hr : Hid (turnN 8 x = r)) :
    Calls Try.prog 14 #[.int .i64 64, .bool true, .int .u64 x] w fun e w' => e = .returned (.tuple #[.int .u64 (r : Nat), .bool true]) ∧ w = w' := by
  have := hr.out
  subst this
  exact rswap_64_true x w hx
set_option maxRecDepth 100000 in
set_option maxHeartbeats 1000000 in
theorem aluSwaps_16_true (x r : Nat) (n : Int) (w : World) (hx : x < 2 ^ 64) (hn : -2147483648 ≤ n) (hn2 : n ≤ 2147483647) (hr : Hid (turnN 2 x = r)) (hl : r < 65536) (hb : Hid (turnN 2 r = x % 2 ^ 16)) (hl2 : x % 2 ^ 16 < 65536) :
    Calls Try.prog 8 #[.int .i64 16, .bool true, .int .u64 x, .int .i32 n] w fun e w' => e = .returned (.bool true) ∧ Below w.heap.size w w' := by
  go_enter Try.func8, Try.ntmps8
  go_wp2_with fail
  refine (known_any _).mono ?_; rintro e w1 ⟨rfl, h1⟩
  go_wp2_with fail
  refine (swap_16_true x r _ hx hr hl hb hl2).mono ?_; rintro e w' ⟨rfl, rfl⟩
  go_wp2_with fail
  refine (rswapc_16 x r _ hx hr).mono ?_; rintro e w' ⟨rfl, rfl⟩
  go_wp2_with fail
  refine (turn_16 x r _ hx hr hl).mono ?_; rintro e w' ⟨rfl, rfl⟩
  go_wp2_with fail
  refine (rturnc_16 x r _ hx hr).mono ?_; rintro e w' ⟨rfl, rfl⟩
  go_wp2_with fail
  refine (sign_any n _ hn hn2).mono ?_; rintro e w' ⟨rfl, rfl⟩
  go_wp2_with fail
  refine (rsign_any n _ hn hn2).mono ?_; rintro e w' ⟨rfl, rfl⟩
  go_wp2_with fail
  refine (turn_16 r _ _ (by omega) hb hl2).mono ?_; rintro e w' ⟨rfl, rfl⟩
  go_wp2_with fail
  go_ret
  exact ⟨rfl, h1⟩
set_option maxRecDepth 100000 in
set_option maxHeartbeats 1000000 in
theorem aluSwaps_16_false (x r : Nat) (n : Int) (w : World) (hx : x < 2 ^ 64) (hn : -2147483648 ≤ n) (hn2 : n ≤ 2147483647) (hr : Hid (turnN 2 x = r)) (hl : r < 65536) (hb : Hid (turnN 2 r = x % 2 ^ 16)) (hl2 : x % 2 ^ 16 < 65536) :
    Calls Try.prog 8 #[.int .i64 16, .bool false, .int .u64 x, .int .i32 n] w fun e w' => e = .returned (.bool true) ∧ Below w.heap.size w w' := by
  go_enter Try.func8, Try.ntmps8
  go_wp2_with fail
  refine (known_any _).mono ?_; rintro e w1 ⟨rfl, h1⟩
  go_wp2_with fail
  refine (swap_16_false x r _ hx hr hl hb hl2).mono ?_; rintro e w' ⟨rfl, rfl⟩
  go_wp2_with fail
  refine (rswap_16_false x _ hx).mono ?_; rintro e w' ⟨rfl, rfl⟩
  go_wp2_with fail
  refine (turn_16 x r _ hx hr hl).mono ?_; rintro e w' ⟨rfl, rfl⟩
  go_wp2_with fail
  refine (rturnc_16 x r _ hx hr).mono ?_; rintro e w' ⟨rfl, rfl⟩
  go_wp2_with fail
  refine (sign_any n _ hn hn2).mono ?_; rintro e w' ⟨rfl, rfl⟩
  go_wp2_with fail
  refine (rsign_any n _ hn hn2).mono ?_; rintro e w' ⟨rfl, rfl⟩
  go_wp2_with fail
  refine (turn_16 r _ _ (by omega) hb hl2).mono ?_; rintro e w' ⟨rfl, rfl⟩
  go_wp2_with fail
  go_ret
  exact ⟨rfl, h1⟩
set_option maxRecDepth 100000 in
set_option maxHeartbeats 1000000 in
theorem aluSwaps_32_true (x r : Nat) (n : Int) (w : World) (hx : x < 2 ^ 64) (hn : -2147483648 ≤ n) (hn2 : n ≤ 2147483647) (hr : Hid (turnN 4 x = r)) (hl : r < 4294967296) (hb : Hid (turnN 4 r = x % 2 ^ 32)) (hl2 : x % 2 ^ 32 < 4294967296) :
    Calls Try.prog 8 #[.int .i64 32, .bool true, .int .u64 x, .int .i32 n] w fun e w' => e = .returned (.bool true) ∧ Below w.heap.size w w' := by
  go_enter Try.func8, Try.ntmps8
  go_wp2_with fail
  refine (known_any _).mono ?_; rintro e w1 ⟨rfl, h1⟩
  go_wp2_with fail
  refine (swap_32_true x r _ hx hr hl hb hl2).mono ?_; rintro e w' ⟨rfl, rfl⟩
  go_wp2_with fail
  refine (rswapc_32 x r _ hx hr).mono ?_; rintro e w' ⟨rfl, rfl⟩
  go_wp2_with fail
  refine (turn_32 x r _ hx hr hl).mono ?_; rintro e w' ⟨rfl, rfl⟩
  go_wp2_with fail
  refine (rturnc_32 x r _ hx hr).mono ?_; rintro e w' ⟨rfl, rfl⟩
  go_wp2_with fail
  refine (sign_any n _ hn hn2).mono ?_; rintro e w' ⟨rfl, rfl⟩
  go_wp2_with fail
  refine (rsign_any n _ hn hn2).mono ?_; rintro e w' ⟨rfl, rfl⟩
  go_wp2_with fail
  refine (turn_32 r _ _ (by omega) hb hl2).mono ?_; rintro e w' ⟨rfl, rfl⟩
  go_wp2_with fail
  go_ret
  exact ⟨rfl, h1⟩
set_option maxRecDepth 100000 in
set_option maxHeartbeats 1000000 in
theorem aluSwaps_32_false (x r : Nat) (n : Int) (w : World) (hx : x < 2 ^ 64) (hn : -2147483648 ≤ n) (hn2 : n ≤ 2147483647) (hr : Hid (turnN 4 x = r)) (hl : r < 4294967296) (hb : Hid (turnN 4 r = x % 2 ^ 32)) (hl2 : x % 2 ^ 32 < 4294967296) :
    Calls Try.prog 8 #[.int .i64 32, .bool false, .int .u64 x, .int .i32 n] w fun e w' => e = .returned (.bool true) ∧ Below w.heap.size w w' := by
  go_enter Try.func8, Try.ntmps8
  go_wp2_with fail
  refine (known_any _).mono ?_; rintro e w1 ⟨rfl, h1⟩
  go_wp2_with fail
  refine (swap_32_false x r _ hx hr hl hb hl2).mono ?_; rintro e w' ⟨rfl, rfl⟩
  go_wp2_with fail
  refine (rswap_32_false x _ hx).mono ?_; rintro e w' ⟨rfl, rfl⟩
  go_wp2_with fail
  refine (turn_32 x r _ hx hr hl).mono ?_; rintro e w' ⟨rfl, rfl⟩
  go_wp2_with fail
  refine (rturnc_32 x r _ hx hr).mono ?_; rintro e w' ⟨rfl, rfl⟩
  go_wp2_with fail
  refine (sign_any n _ hn hn2).mono ?_; rintro e w' ⟨rfl, rfl⟩
  go_wp2_with fail
  refine (rsign_any n _ hn hn2).mono ?_; rintro e w' ⟨rfl, rfl⟩
  go_wp2_with fail
  refine (turn_32 r _ _ (by omega) hb hl2).mono ?_; rintro e w' ⟨rfl, rfl⟩
  go_wp2_with fail
  go_ret
  exact ⟨rfl, h1⟩
set_option maxRecDepth 100000 in
set_option maxHeartbeats 1000000 in
theorem aluSwaps_64_true (x r : Nat) (n : Int) (w : World) (hx : x < 2 ^ 64) (hn : -2147483648 ≤ n) (hn2 : n ≤ 2147483647) (hr : Hid (turnN 8 x = r)) (hl : r < 2 ^ 64) (hb : Hid (turnN 8 r = x)) :
    Calls Try.prog 8 #[.int .i64 64, .bool true, .int .u64 x, .int .i32 n] w fun e w' => e = .returned (.bool true) ∧ Below w.heap.size w w' := by
  go_enter Try.func8, Try.ntmps8
  go_wp2_with fail
  refine (known_any _).mono ?_; rintro e w1 ⟨rfl, h1⟩
  go_wp2_with fail
  refine (swap_64_true x r _ hx hr hl hb).mono ?_; rintro e w' ⟨rfl, rfl⟩
  go_wp2_with fail
  refine (rswapc_64 x r _ hx hr).mono ?_; rintro e w' ⟨rfl, rfl⟩
  go_wp2_with fail
  refine (turn64c x r _ hx hr).mono ?_; rintro e w' ⟨rfl, rfl⟩
  go_wp2_with fail
  refine (rturnc_64 x r _ hx hr).mono ?_; rintro e w' ⟨rfl, rfl⟩
  go_wp2_with fail
  refine (sign_any n _ hn hn2).mono ?_; rintro e w' ⟨rfl, rfl⟩
  go_wp2_with fail
  refine (rsign_any n _ hn hn2).mono ?_; rintro e w' ⟨rfl, rfl⟩
  go_wp2_with fail
  refine (turn64c r x _ hl hb).mono ?_; rintro e w' ⟨rfl, rfl⟩
  go_wp2_with fail
  go_ret
  exact ⟨rfl, h1⟩
set_option maxRecDepth 100000 in
set_option maxHeartbeats 1000000 in
theorem aluSwaps_64_false (x r : Nat) (n : Int) (w : World) (hx : x < 2 ^ 64) (hn : -2147483648 ≤ n) (hn2 : n ≤ 2147483647) (hr : Hid (turnN 8 x = r)) (hl : r < 2 ^ 64) (hb : Hid (turnN 8 r = x)) :
    Calls Try.prog 8 #[.int .i64 64, .bool false, .int .u64 x, .int .i32 n] w fun e w' => e = .returned (.bool true) ∧ Below w.heap.size w w' := by
  go_enter Try.func8, Try.ntmps8
  go_wp2_with fail
  refine (known_any _).mono ?_; rintro e w1 ⟨rfl, h1⟩
  go_wp2_with fail
  refine (swap_64_false x r _ hx hr hl hb).mono ?_; rintro e w' ⟨rfl, rfl⟩
  go_wp2_with fail
  refine (rswap_64_false x _ hx).mono ?_; rintro e w' ⟨rfl, rfl⟩
  go_wp2_with fail
  refine (turn64c x r _ hx hr).mono ?_; rintro e w' ⟨rfl, rfl⟩
  go_wp2_with fail
  refine (rturnc_64 x r _ hx hr).mono ?_; rintro e w' ⟨rfl, rfl⟩
  go_wp2_with fail
  refine (sign_any n _ hn hn2).mono ?_; rintro e w' ⟨rfl, rfl⟩
  go_wp2_with fail
  refine (rsign_any n _ hn hn2).mono ?_; rintro e w' ⟨rfl, rfl⟩
  go_wp2_with fail
  refine (turn64c r x _ hl hb).mono ?_; rintro e w' ⟨rfl, rfl⟩
  go_wp2_with fail
  go_ret
  exact ⟨rfl, h1⟩
set_option maxRecDepth 100000 in
set_option maxHeartbeats 1000000 in
theorem aluSwaps_none (o : Int) (b : Bool) (x : Int) (n : Int) (w : World) (hn : -2147483648 ≤ n) (hn2 : n ≤ 2147483647) (h1 : (o == 16) = false) (h2 : (o == 32) = false) (h3 : (o == 64) = false) (h4 : (o != 16) = true) (h5 : (o != 32) = true) (h6 : (o != 64) = true) :
    Calls Try.prog 8 #[.int .i64 o, .bool b, .int .u64 x, .int .i32 n] w fun e w' => e = .returned (.bool true) ∧ Below w.heap.size w w' := by
  go_enter Try.func8, Try.ntmps8
  go_wp2_with fail
  refine (known_any _).mono ?_; rintro e w1 ⟨rfl, hb1⟩
  go_wp2_with fail
  refine (swap_none o b x _ h1 h2 h3).mono ?_; rintro e w' ⟨rfl, rfl⟩
  go_wp2_with fail
  refine (rswap_none o b x _ h4 h5 h6).mono ?_; rintro e w' ⟨rfl, rfl⟩
  go_wp2_with fail
  refine (turn_none o x _ h1 h2 h3).mono ?_; rintro e w' ⟨rfl, rfl⟩
  go_wp2_with fail
  refine (rturn_none o x _ h4 h5 h6).mono ?_; rintro e w' ⟨rfl, rfl⟩
  go_wp2_with fail
  refine (sign_any n _ hn hn2).mono ?_; rintro e w' ⟨rfl, rfl⟩
  go_wp2_with fail
  refine (rsign_any n _ hn hn2).mono ?_; rintro e w' ⟨rfl, rfl⟩
  go_wp2_with fail
  go_ret
  exact ⟨rfl, hb1⟩

theorem aluSwaps_walk (a0 : Int) (a1 : Bool) (a2 : Int) (a3 : Int) (w0 : (Lit.int .i64 a0).wf = true) (w2 : (Lit.int .u64 a2).wf = true) (w3 : (Lit.int .i32 a3).wf = true) (w : World) :
    Calls Try.prog 8 #[.int .i64 a0, .bool a1, .int .u64 a2, .int .i32 a3] w fun e w' => e = .returned (.bool true) ∧ Below w.heap.size w w' := by
  obtain ⟨x, rfl, hx⟩ := nat_of_u64 w2
  have b3 := bounds_i32 w3
  have e8 : turnN 8 (turnN 8 x) = x := by rw [turn_turn8, Nat.mod_eq_of_lt hx]
  by_cases h1 : a0 = 16
  · subst h1
    cases a1 with
    | true => exact aluSwaps_16_true x _ a3 w hx b3.1 b3.2 rfl (turnN_lt 2 x) (turn_turn2 x) (Nat.mod_lt _ (by decide))
    | false => exact aluSwaps_16_false x _ a3 w hx b3.1 b3.2 rfl (turnN_lt 2 x) (turn_turn2 x) (Nat.mod_lt _ (by decide))
  · by_cases h2 : a0 = 32
    · subst h2
      cases a1 with
      | true => exact aluSwaps_32_true x _ a3 w hx b3.1 b3.2 rfl (turnN_lt 4 x) (turn_turn4 x) (Nat.mod_lt _ (by decide))
      | false => exact aluSwaps_32_false x _ a3 w hx b3.1 b3.2 rfl (turnN_lt 4 x) (turn_turn4 x) (Nat.mod_lt _ (by decide))
    · by_cases h3 : a0 = 64
      · subst h3
        cases a1 with
        | true => exact aluSwaps_64_true x _ a3 w hx b3.1 b3.2 rfl (turnN_lt 8 x) e8
        | false => exact aluSwaps_64_false x _ a3 w hx b3.1 b3.2 rfl (turnN_lt 8 x) e8
      · exact aluSwaps_none a0 a1 x a3 w b3.1 b3.2 (by simp [h1]) (by simp [h2]) (by simp [h3]) (by simp [h1]) (by simp [h2]) (by simp [h3])
end Go.Proofs.Ytdpnhpennceldaa
