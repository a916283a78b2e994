/-
  THE WALKS of Turn, Swap and Sign, the program's and the reference's.
-/
import Derived.Test.YtdpnhpennceldaaKnown
import Derived.Test.YtdpnhpennceldaaBytes
namespace Go.Proofs.Ytdpnhpennceldaa
open Go.RowKit M
set_option linter.unusedVariables false
set_option maxRecDepth 100000 in
set_option maxHeartbeats 1000000 in
theorem rev16 (x : Nat) (w : World) (hx : x < 2 ^ 16) :
    Calls Try.prog 24 #[.int .u16 x] w fun e w' => e = .returned (.int .u16 (turnN 2 x : Nat)) ∧ w = w' := by
  go_enter Try.func24, Try.ntmps24
  go_wp2
  go_ret
  exact ⟨congrArg (fun z => Ending.returned (.int .u16 z)) (r16 x hx), rfl⟩
set_option maxRecDepth 100000 in
set_option maxHeartbeats 1000000 in
theorem rev32 (x : Nat) (w : World) (hx : x < 2 ^ 32) :
    Calls Try.prog 25 #[.int .u32 x] w fun e w' => e = .returned (.int .u32 (turnN 4 x : Nat)) ∧ w = w' := by
  go_enter Try.func25, Try.ntmps25
  go_wp2
  go_ret
  exact ⟨congrArg (fun z => Ending.returned (.int .u32 z)) (r32 x hx), rfl⟩
set_option maxRecDepth 100000 in
set_option maxHeartbeats 1000000 in
theorem rev64 (x : Nat) (w : World) (hx : x < 2 ^ 64) :
    Calls Try.prog 26 #[.int .u64 x] w fun e w' => e = .returned (.int .u64 (turnN 8 x : Nat)) ∧ w = w' := by
  go_enter Try.func26, Try.ntmps26
  go_wp2
  go_ret
  exact ⟨congrArg (fun z => Ending.returned (.int .u64 z)) (r64 x hx), rfl⟩

theorem turn_low2 (x : Nat) : turnN 2 (x % 2 ^ 16) = turnN 2 x := by
  obtain ⟨b0, b1, h0, h1, e, t⟩ := bytes2 x
  rw [t, e, turn_num2 _ _ h0 h1]
theorem turn_low4 (x : Nat) : turnN 4 (x % 2 ^ 32) = turnN 4 x := by
  obtain ⟨b0, b1, b2, b3, h0, h1, h2, h3, e, t⟩ := bytes4 x
  rw [t, e, turn_num4 _ _ _ _ h0 h1 h2 h3]
theorem rev16c {x r : Nat} {z : Int} (hz : z = ((x % 2 ^ 16 : Nat) : Int)) (hr : turnN 2 x = r) (w : World) :
    Calls Try.prog 24 #[.int .u16 z] w fun e w' => e = .returned (.int .u16 (r : Nat)) ∧ w = w' := by
  subst hz hr
  rw [← turn_low2]
  exact rev16 _ w (Nat.mod_lt _ (by decide))
theorem rev32c {x r : Nat} {z : Int} (hz : z = ((x % 2 ^ 32 : Nat) : Int)) (hr : turnN 4 x = r) (w : World) :
    Calls Try.prog 25 #[.int .u32 z] w fun e w' => e = .returned (.int .u32 (r : Nat)) ∧ w = w' := by
  subst hz hr
  rw [← turn_low4]
  exact rev32 _ w (Nat.mod_lt _ (by decide))
theorem wrap16_nat (x : Nat) : IntKind.u16.wrap (x : Int) = ((x % 2 ^ 16 : Nat) : Int) := by rw [IntKind.wrap_u16]; omega
theorem wrap32u_nat (x : Nat) : (x : Int) % 4294967296 = ((x % 2 ^ 32 : Nat) : Int) := by omega
set_option maxRecDepth 100000 in
set_option maxHeartbeats 1000000 in
theorem turn_16 (x r : Nat) (w : World) (hx : x < 2 ^ 64) (hr : Hid (turnN 2 x = r)) (hl : r < 65536) :
    Calls Try.prog 15 #[.int .i64 16, .int .u64 x] w fun e w' => e = .returned (.tuple #[.int .u64 (r : Nat), .bool true]) ∧ w = w' := by
  go_enter Try.func15, Try.ntmps15
  go_wp2_with fail
  refine (rev16c (wrap16_nat x) hr.out _).mono ?_; rintro e w' ⟨rfl, rfl⟩
  go_wp2_with fail
  go_ret2
  exact ⟨rfl, rfl⟩
set_option maxRecDepth 100000 in
set_option maxHeartbeats 1000000 in
theorem turn_32 (x r : Nat) (w : World) (hx : x < 2 ^ 64) (hr : Hid (turnN 4 x = r)) (hl : r < 4294967296) :
    Calls Try.prog 15 #[.int .i64 32, .int .u64 x] w fun e w' => e = .returned (.tuple #[.int .u64 (r : Nat), .bool true]) ∧ w = w' := by
  go_enter Try.func15, Try.ntmps15
  go_wp2_with fail
  refine (rev32c (wrap32u_nat x) hr.out _).mono ?_; rintro e w' ⟨rfl, rfl⟩
  go_wp2_with fail
  go_ret2
  exact ⟨rfl, rfl⟩
set_option maxRecDepth 100000 in
set_option maxHeartbeats 1000000 in
theorem turn_64 (x : Nat) (w : World) (hx : x < 2 ^ 64) :
    Calls Try.prog 15 #[.int .i64 64, .int .u64 x] w fun e w' => e = .returned (.tuple #[.int .u64 (turnN 8 x : Nat), .bool true]) ∧ w = w' := by
  go_enter Try.func15, Try.ntmps15
  go_wp2_with fail
  refine (rev64 x _ hx).mono ?_; rintro e w' ⟨rfl, rfl⟩
  go_wp2_with fail
  go_ret2
  exact ⟨rfl, rfl⟩
set_option maxRecDepth 100000 in
set_option maxHeartbeats 1000000 in
theorem turn_none (o : Int) (x : Int) (w : World) (h1 : (o == 16) = false) (h2 : (o == 32) = false) (h3 : (o == 64) = false) :
    Calls Try.prog 15 #[.int .i64 o, .int .u64 x] w fun e w' => e = .returned (.tuple #[.int .u64 0, .bool false]) ∧ w = w' := by
  go_enter Try.func15, Try.ntmps15
  go_wp2_with fail
  go_ret2
  exact ⟨rfl, rfl⟩
set_option maxRecDepth 100000 in
set_option maxHeartbeats 1000000 in
theorem rturn_none (o : Int) (x : Int) (w : World) (h1 : (o != 16) = true) (h2 : (o != 32) = true) (h3 : (o != 64) = true) :
    Calls Try.prog 16 #[.int .i64 o, .int .u64 x] w fun e w' => e = .returned (.tuple #[.int .u64 0, .bool false]) ∧ w = w' := by
  go_enter Try.func16, Try.ntmps16
  go_wp2_with fail
  go_ret2
  exact ⟨rfl, rfl⟩
theorem at_end {x k n : Nat} (h : k ≤ n) (h' : ¬ k < n) : Value.int .u64 ((turnN k x : Nat) : Int) = .int .u64 ((turnN n x : Nat) : Int) := by
  rw [show k = n by omega]
set_option maxRecDepth 100000 in
set_option maxHeartbeats 1000000 in
theorem rturn_16 (x : Nat) (w : World) (hx : x < 2 ^ 64) :
    Calls Try.prog 16 #[.int .i64 16, .int .u64 x] w fun e w' => e = .returned (.tuple #[.int .u64 (turnN 2 x : Nat), .bool true]) ∧ w = w' := by
  go_enter Try.func16, Try.ntmps16
  go_wp2_with fail
  go_loop [6, 7] (fun v i => ∃ k : Nat, k ≤ 2 ∧ i = .int .i64 k ∧ v = .int .u64 (turnN k x : Nat)) (fun _ i => 2 - (intOf i).toNat)
  case atStart => exact ⟨0, Nat.zero_le _, rfl, rfl⟩
  case round =>
    obtain ⟨k, hk, rfl, rfl⟩ := hrel
    by_cases hlt : k < 2
    · go_wp2_with fail
      go_round
      case rel => exact ⟨k + 1, by omega, by go_num, congrArg _ (turn_round x k (by omega))⟩
      case measure => simp [intOf]; omega
    · obtain rfl : k = 2 := by omega
      go_wp2_with fail
      go_ret2
      exact ⟨rfl, rfl⟩
set_option maxRecDepth 100000 in
set_option maxHeartbeats 1000000 in
theorem rturn_32 (x : Nat) (w : World) (hx : x < 2 ^ 64) :
    Calls Try.prog 16 #[.int .i64 32, .int .u64 x] w fun e w' => e = .returned (.tuple #[.int .u64 (turnN 4 x : Nat), .bool true]) ∧ w = w' := by
  go_enter Try.func16, Try.ntmps16
  go_wp2_with fail
  go_loop [6, 7] (fun v i => ∃ k : Nat, k ≤ 4 ∧ i = .int .i64 k ∧ v = .int .u64 (turnN k x : Nat)) (fun _ i => 4 - (intOf i).toNat)
  case atStart => exact ⟨0, Nat.zero_le _, rfl, rfl⟩
  case round =>
    obtain ⟨k, hk, rfl, rfl⟩ := hrel
    by_cases hlt : k < 4
    · go_wp2_with fail
      go_round
      case rel => exact ⟨k + 1, by omega, by go_num, congrArg _ (turn_round x k (by omega))⟩
      case measure => simp [intOf]; omega
    · obtain rfl : k = 4 := by omega
      go_wp2_with fail
      go_ret2
      exact ⟨rfl, rfl⟩
set_option maxRecDepth 100000 in
set_option maxHeartbeats 1000000 in
theorem rturn_64 (x : Nat) (w : World) (hx : x < 2 ^ 64) :
    Calls Try.prog 16 #[.int .i64 64, .int .u64 x] w fun e w' => e = .returned (.tuple #[.int .u64 (turnN 8 x : Nat), .bool true]) ∧ w = w' := by
  go_enter Try.func16, Try.ntmps16
  go_wp2_with fail
  go_loop [6, 7] (fun v i => ∃ k : Nat, k ≤ 8 ∧ i = .int .i64 k ∧ v = .int .u64 (turnN k x : Nat)) (fun _ i => 8 - (intOf i).toNat)
  case atStart => exact ⟨0, Nat.zero_le _, rfl, rfl⟩
  case round =>
    obtain ⟨k, hk, rfl, rfl⟩ := hrel
    by_cases hlt : k < 8
    · go_wp2_with fail
      go_round
      case rel => exact ⟨k + 1, by omega, by go_num, congrArg _ (turn_round x k (by omega))⟩
      case measure => simp [intOf]; omega
    · obtain rfl : k = 8 := by omega
      go_wp2_with fail
      go_ret2
      exact ⟨rfl, rfl⟩
set_option maxRecDepth 100000 in
set_option maxHeartbeats 1000000 in
theorem sign_any (x : Int) (w : World) (hx : -2147483648 ≤ x) (hx2 : x ≤ 2147483647) :
    Calls Try.prog 17 #[.int .i32 x] w fun e w' => e = .returned (.int .u64 (IntKind.u64.wrap x)) ∧ w = w' := by
  go_enter Try.func17, Try.ntmps17
  go_wp2_with fail
  go_ret
  exact ⟨rfl, rfl⟩
set_option maxRecDepth 100000 in
set_option maxHeartbeats 1000000 in
theorem rsign_any (x : Int) (w : World) (hx : -2147483648 ≤ x) (hx2 : x ≤ 2147483647) :
    Calls Try.prog 18 #[.int .i32 x] w fun e w' => e = .returned (.int .u64 (IntKind.u64.wrap x)) ∧ w = w' := by
  go_enter Try.func18, Try.ntmps18
  go_wp2_with fail
  go_ret
  exact ⟨rfl, rfl⟩
set_option maxRecDepth 100000 in
set_option maxHeartbeats 1000000 in
theorem swap_16_true (x r : Nat) (w : World) (hx : x < 2 ^ 64) (hr : Hid (turnN 2 x = r)) (hl : r < 65536) (hb : Hid (turnN 2 r = x % 2 ^ 16)) (hl2 : x % 2 ^ 16 < 65536) :
    Calls Try.prog 13 #[.int .i64 16, .bool true, .int .u64 x] w fun e w' => e = .returned (.tuple #[.int .u64 (r : Nat), .bool true]) ∧ w = w' := by
  go_enter Try.func13, Try.ntmps13
  go_wp2_with fail
  refine (turn_16 x r _ hx hr hl).mono ?_; rintro e w' ⟨rfl, rfl⟩
  go_wp2_with fail
  go_ret2
  exact ⟨rfl, rfl⟩
set_option maxRecDepth 100000 in
set_option maxHeartbeats 1000000 in
theorem rswap_16_true (x : Nat) (w : World) (hx : x < 2 ^ 64) :
    Calls Try.prog 14 #[.int .i64 16, .bool true, .int .u64 x] w fun e w' => e = .returned (.tuple #[.int .u64 (turnN 2 x : Nat), .bool true]) ∧ w = w' := by
  go_enter Try.func14, Try.ntmps14
  go_wp2_with fail
  refine (rturn_16 x _ hx).mono ?_; rintro e w' ⟨rfl, rfl⟩
  go_wp2_with fail
  go_ret2
  exact ⟨rfl, rfl⟩
set_option maxRecDepth 100000 in
set_option maxHeartbeats 1000000 in
theorem swap_16_false (x r : Nat) (w : World) (hx : x < 2 ^ 64) (hr : Hid (turnN 2 x = r)) (hl : r < 65536) (hb : Hid (turnN 2 r = x % 2 ^ 16)) (hl2 : x % 2 ^ 16 < 65536) :
    Calls Try.prog 13 #[.int .i64 16, .bool false, .int .u64 x] w fun e w' => e = .returned (.tuple #[.int .u64 (x % 2 ^ 16 : Nat), .bool true]) ∧ w = w' := by
  go_enter Try.func13, Try.ntmps13
  go_wp2_with fail
  refine (turn_16 x r _ hx hr hl).mono ?_; rintro e w' ⟨rfl, rfl⟩
  go_wp2_with fail
  refine (turn_16 r _ _ (by omega) hb hl2).mono ?_; rintro e w' ⟨rfl, rfl⟩
  go_wp2_with fail
  go_ret2
  exact ⟨rfl, rfl⟩
set_option maxRecDepth 100000 in
set_option maxHeartbeats 1000000 in
theorem rswap_16_false (x : Nat) (w : World) (hx : x < 2 ^ 64) :
    Calls Try.prog 14 #[.int .i64 16, .bool false, .int .u64 x] w fun e w' => e = .returned (.tuple #[.int .u64 (x % 2 ^ 16 : Nat), .bool true]) ∧ w = w' := by
  go_enter Try.func14, Try.ntmps14
  go_wp2_with fail
  go_ret2
  exact ⟨rfl, rfl⟩
set_option maxRecDepth 100000 in
set_option maxHeartbeats 1000000 in
theorem swap_32_true (x r : Nat) (w : World) (hx : x < 2 ^ 64) (hr : Hid (turnN 4 x = r)) (hl : r < 4294967296) (hb : Hid (turnN 4 r = x % 2 ^ 32)) (hl2 : x % 2 ^ 32 < 4294967296) :
    Calls Try.prog 13 #[.int .i64 32, .bool true, .int .u64 x] w fun e w' => e = .returned (.tuple #[.int .u64 (r : Nat), .bool true]) ∧ w = w' := by
  go_enter Try.func13, Try.ntmps13
  go_wp2_with fail
  refine (turn_32 x r _ hx hr hl).mono ?_; rintro e w' ⟨rfl, rfl⟩
  go_wp2_with fail
  go_ret2
  exact ⟨rfl, rfl⟩
set_option maxRecDepth 100000 in
set_option maxHeartbeats 1000000 in
theorem rswap_32_true (x : Nat) (w : World) (hx : x < 2 ^ 64) :
    Calls Try.prog 14 #[.int .i64 32, .bool true, .int .u64 x] w fun e w' => e = .returned (.tuple #[.int .u64 (turnN 4 x : Nat), .bool true]) ∧ w = w' := by
  go_enter Try.func14, Try.ntmps14
  go_wp2_with fail
  refine (rturn_32 x _ hx).mono ?_; rintro e w' ⟨rfl, rfl⟩
  go_wp2_with fail
  go_ret2
  exact ⟨rfl, rfl⟩
set_option maxRecDepth 100000 in
set_option maxHeartbeats 1000000 in
theorem swap_32_false (x r : Nat) (w : World) (hx : x < 2 ^ 64) (hr : Hid (turnN 4 x = r)) (hl : r < 4294967296) (hb : Hid (turnN 4 r = x % 2 ^ 32)) (hl2 : x % 2 ^ 32 < 4294967296) :
    Calls Try.prog 13 #[.int .i64 32, .bool false, .int .u64 x] w fun e w' => e = .returned (.tuple #[.int .u64 (x % 2 ^ 32 : Nat), .bool true]) ∧ w = w' := by
  go_enter Try.func13, Try.ntmps13
  go_wp2_with fail
  refine (turn_32 x r _ hx hr hl).mono ?_; rintro e w' ⟨rfl, rfl⟩
  go_wp2_with fail
  refine (turn_32 r _ _ (by omega) hb hl2).mono ?_; rintro e w' ⟨rfl, rfl⟩
  go_wp2_with fail
  go_ret2
  exact ⟨rfl, rfl⟩
set_option maxRecDepth 100000 in
set_option maxHeartbeats 1000000 in
theorem rswap_32_false (x : Nat) (w : World) (hx : x < 2 ^ 64) :
    Calls Try.prog 14 #[.int .i64 32, .bool false, .int .u64 x] w fun e w' => e = .returned (.tuple #[.int .u64 (x % 2 ^ 32 : Nat), .bool true]) ∧ w = w' := by
  go_enter Try.func14, Try.ntmps14
  go_wp2_with fail
  go_ret2
  exact ⟨rfl, rfl⟩
theorem turn64c (x r : Nat) (w : World) (hx : x < 2 ^ 64) (hr : Hid (turnN 8 x = r)) :
    Calls Try.prog 15 #[.int .i64 64, .int .u64 x] w fun e w' => e = .returned (.tuple #[.int .u64 (r : Nat), .bool true]) ∧ w = w' := by
  have := hr.out
  subst this
  exact turn_64 x w hx
set_option maxRecDepth 100000 in
set_option maxHeartbeats 1000000 in
theorem swap_64_true (x r : Nat) (w : World) (hx : x < 2 ^ 64) (hr : Hid (turnN 8 x = r)) (hl : r < 2 ^ 64) (hb : Hid (turnN 8 r = x)) :
    Calls Try.prog 13 #[.int .i64 64, .bool true, .int .u64 x] w fun e w' => e = .returned (.tuple #[.int .u64 (r : Nat), .bool true]) ∧ w = w' := by
  go_enter Try.func13, Try.ntmps13
  go_wp2_with fail
  refine (turn64c x r _ hx hr).mono ?_; rintro e w' ⟨rfl, rfl⟩
  go_wp2_with fail
  go_ret2
  exact ⟨rfl, rfl⟩
set_option maxRecDepth 100000 in
set_option maxHeartbeats 1000000 in
theorem rswap_64_true (x : Nat) (w : World) (hx : x < 2 ^ 64) :
    Calls Try.prog 14 #[.int .i64 64, .bool true, .int .u64 x] w fun e w' => e = .returned (.tuple #[.int .u64 (turnN 8 x : Nat), .bool true]) ∧ w = w' := by
  go_enter Try.func14, Try.ntmps14
  go_wp2_with fail
  refine (rturn_64 x _ hx).mono ?_; rintro e w' ⟨rfl, rfl⟩
  go_wp2_with fail
  go_ret2
  exact ⟨rfl, rfl⟩
set_option maxRecDepth 100000 in
set_option maxHeartbeats 1000000 in
theorem swap_64_false (x r : Nat) (w : World) (hx : x < 2 ^ 64) (hr : Hid (turnN 8 x = r)) (hl : r < 2 ^ 64) (hb : Hid (turnN 8 r = x)) :
    Calls Try.prog 13 #[.int .i64 64, .bool false, .int .u64 x] w fun e w' => e = .returned (.tuple #[.int .u64 (x : Nat), .bool true]) ∧ w = w' := by
  go_enter Try.func13, Try.ntmps13
  go_wp2_with fail
  refine (turn64c x r _ hx hr).mono ?_; rintro e w' ⟨rfl, rfl⟩
  go_wp2_with fail
  refine (turn64c r x _ hl hb).mono ?_; rintro e w' ⟨rfl, rfl⟩
  go_wp2_with fail
  go_ret2
  exact ⟨rfl, rfl⟩
set_option maxRecDepth 100000 in
set_option maxHeartbeats 1000000 in
theorem rswap_64_false (x : Nat) (w : World) (hx : x < 2 ^ 64) :
    Calls Try.prog 14 #[.int .i64 64, .bool false, .int .u64 x] w fun e w' => e = .returned (.tuple #[.int .u64 (x : Nat), .bool true]) ∧ w = w' := by
  go_enter Try.func14, Try.ntmps14
  go_wp2_with fail
  go_ret2
  exact ⟨rfl, rfl⟩
set_option maxRecDepth 100000 in
set_option maxHeartbeats 1000000 in
theorem swap_none (o : Int) (b : Bool) (x : Int) (w : World) (h1 : (o == 16) = false) (h2 : (o == 32) = false) (h3 : (o == 64) = false) :
    Calls Try.prog 13 #[.int .i64 o, .bool b, .int .u64 x] w fun e w' => e = .returned (.tuple #[.int .u64 0, .bool false]) ∧ w = w' := by
  go_enter Try.func13, Try.ntmps13
  go_wp2_with fail
  refine (turn_none _ _ _ h1 h2 h3).mono ?_; rintro e w' ⟨rfl, rfl⟩
  go_wp2_with fail
  go_ret2
  exact ⟨rfl, rfl⟩
set_option maxRecDepth 100000 in
set_option maxHeartbeats 1000000 in
theorem rswap_none (o : Int) (b : Bool) (x : Int) (w : World) (h1 : (o != 16) = true) (h2 : (o != 32) = true) (h3 : (o != 64) = true) :
    Calls Try.prog 14 #[.int .i64 o, .bool b, .int .u64 x] w fun e w' => e = .returned (.tuple #[.int .u64 0, .bool false]) ∧ w = w' := by
  go_enter Try.func14, Try.ntmps14
  go_wp2_with fail
  go_ret2
  exact ⟨rfl, rfl⟩
end Go.Proofs.Ytdpnhpennceldaa
