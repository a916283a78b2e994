/-
  THE WALKS of the program's operations (package alu): each inner function of 'tabled', at two numbers of 64 bits and of 32.
-/
import Derived.Test.YtdpnhpennceldaaRows
import Derived.Test.YtdpnhpennceldaaMath
import Derived.WalkKit
import Derived.WalkSpells
import Derived.WalkLawsBesides
namespace Go.Proofs.Ytdpnhpennceldaa
open Go.RowKit M
set_option linter.unusedVariables false

theorem wrapN (x : Nat) : IntKind.u64.wrap (x : Int) = ((x % 2 ^ 64 : Nat) : Int) := by rw [IntKind.wrap_u64]; omega
theorem c_add (a b : Nat) : IntKind.u64.wrap ((a : Int) + (b : Int)) = ((op 64 0 a b : Nat) : Int) := by
  rw [← Int.natCast_add, wrapN]; rfl
theorem c_add32 (a b : Nat) (ha : a < 2 ^ 32) (hb : b < 2 ^ 32) : (a : Int) + (b : Int) = ((mid 0 a b : Nat) : Int) := by
  rw [← Int.natCast_add]; simp only [mid, op]; rw [Nat.mod_eq_of_lt (by omega)]
theorem c_sub (a b : Nat) (hb : b < 2 ^ 64) : IntKind.u64.wrap ((a : Int) - (b : Int)) = ((op 64 1 a b : Nat) : Int) := by
  rw [IntKind.wrap_u64]; simp only [op]; omega
theorem c_mul (a b : Nat) : IntKind.u64.wrap ((a : Int) * (b : Int)) = ((op 64 2 a b : Nat) : Int) := by
  rw [← Int.natCast_mul, wrapN]; rfl
theorem c_div0 (a : Nat) : (0 : Int) = ((op 64 3 a 0 : Nat) : Int) := by simp [op]
theorem c_div (a b : Nat) (ha : a < 2 ^ 64) : IntKind.u64.wrap ((a : Int) / (b : Int)) = ((op 64 3 a b : Nat) : Int) := by
  rw [← Int.natCast_ediv, wrapN, Nat.mod_eq_of_lt (Nat.lt_of_le_of_lt (Nat.div_le_self _ _) ha)]; rfl
theorem c_mod0 (a : Nat) : (a : Int) = ((op 64 9 a 0 : Nat) : Int) := by simp [op]
theorem c_mod (a b : Nat) : (a : Int) % (b : Int) = ((op 64 9 a b : Nat) : Int) := by rw [← Int.natCast_emod]; rfl
theorem c_lsh (a k : Nat) : IntKind.u64.wrap ((a : Int) * 2 ^ k) = ((a * 2 ^ k % 2 ^ 64 : Nat) : Int) := by
  rw [show (a : Int) * 2 ^ k = ((a * 2 ^ k : Nat) : Int) by simp, wrapN]
theorem c_rsh (a k : Nat) : (a : Int) / 2 ^ k = ((a / 2 ^ k : Nat) : Int) := by simp
theorem c_lsh64 (a b : Nat) : IntKind.u64.wrap ((a : Int) * 2 ^ (b % 64)) = ((op 64 6 a b : Nat) : Int) := by simp only [op]; exact c_lsh _ _
theorem c_lsh32 (a b : Nat) : IntKind.u64.wrap ((a : Int) * 2 ^ (b % 32)) = ((mid 6 a b : Nat) : Int) := by simp only [mid]; exact c_lsh _ _
theorem c_rsh64 (a b : Nat) : (a : Int) / 2 ^ (b % 64) = ((op 64 7 a b : Nat) : Int) := by simp only [op]; exact c_rsh _ _
theorem c_rsh32 (a b : Nat) : (a : Int) / 2 ^ (b % 32) = ((mid 7 a b : Nat) : Int) := by simp only [mid]; exact c_rsh _ _
theorem c_neg (a b : Nat) (ha : a < 2 ^ 64) : IntKind.u64.wrap (-(a : Int)) = ((op 64 8 a b : Nat) : Int) := by
  rw [IntKind.wrap_u64]; simp only [op]; omega
theorem wrap64_nat (a : Nat) (ha : a < 2 ^ 64) : wrap64 (a : Int) = if a < 2 ^ (64 - 1) then (a : Int) else (a : Int) - ((2 ^ 64 : Nat) : Int) := by
  unfold wrap64; split <;> omega
theorem wrap32_nat (a : Nat) (ha : a < 2 ^ 32) : wrap32 (a : Int) = if a < 2 ^ (32 - 1) then (a : Int) else (a : Int) - ((2 ^ 32 : Nat) : Int) := by
  unfold wrap32; split <;> omega
theorem c_ash (a k : Nat) (ha : a < 2 ^ 64) : IntKind.u64.wrap (wrap64 (a : Int) / 2 ^ k) = ((ash 64 a k : Nat) : Int) := by
  rw [IntKind.wrap_u64, wrap64_nat a ha, ← ash_int ha]; simp
theorem c_ash32 (a k : Nat) (ha : a < 2 ^ 32) : wrap32 (a : Int) / 2 ^ k % 4294967296 = ((ash 32 a k : Nat) : Int) := by
  rw [wrap32_nat a ha, ← ash_int ha]; simp
theorem c_ash64 (a b : Nat) (ha : a < 2 ^ 64) : IntKind.u64.wrap (wrap64 (a : Int) / 2 ^ (b % 64)) = ((op 64 12 a b : Nat) : Int) := by simp only [op]; exact c_ash _ _ ha
theorem c_ash32m (a b : Nat) (ha : a < 2 ^ 32) : wrap32 (a : Int) / 2 ^ (b % 32) % 4294967296 = ((mid 12 a b : Nat) : Int) := by simp only [mid]; exact c_ash32 _ _ ha

set_option maxHeartbeats 400000 in
theorem f0_64 (a b : Nat) (w : World) (ha : a < 2 ^ 64) (hb : b < 2 ^ 64)  :
    Calls Try.prog 28 #[.int .u64 a, .int .u64 b, .int .i64 64] w fun e w' => e = .returned (.int .u64 (op 64 0 a b : Nat)) ∧ w = w' := by
  go_enter Try.func28, Try.ntmps28
  go_wp2
  go_ret
  exact ⟨congrArg (fun z => Ending.returned (.int .u64 z)) (c_add a b), rfl⟩

set_option maxHeartbeats 400000 in
theorem f0_32 (a b : Nat) (w : World) (ha : a < 2 ^ 32) (hb : b < 2 ^ 32)  :
    Calls Try.prog 28 #[.int .u64 a, .int .u64 b, .int .i64 32] w fun e w' => e = .returned (.int .u64 (mid 0 a b : Nat)) ∧ w = w' := by
  go_enter Try.func28, Try.ntmps28
  go_wp2
  go_ret
  exact ⟨congrArg (fun z => Ending.returned (.int .u64 z)) (c_add32 a b ha hb), rfl⟩

set_option maxHeartbeats 400000 in
theorem f1_64 (a b : Nat) (w : World) (ha : a < 2 ^ 64) (hb : b < 2 ^ 64)  :
    Calls Try.prog 29 #[.int .u64 a, .int .u64 b, .int .i64 64] w fun e w' => e = .returned (.int .u64 (op 64 1 a b : Nat)) ∧ w = w' := by
  go_enter Try.func29, Try.ntmps29
  go_wp2
  go_ret
  exact ⟨congrArg (fun z => Ending.returned (.int .u64 z)) (c_sub a b (by omega)), rfl⟩

set_option maxHeartbeats 400000 in
theorem f1_32 (a b : Nat) (w : World) (ha : a < 2 ^ 32) (hb : b < 2 ^ 32)  :
    Calls Try.prog 29 #[.int .u64 a, .int .u64 b, .int .i64 32] w fun e w' => e = .returned (.int .u64 (mid 1 a b : Nat)) ∧ w = w' := by
  go_enter Try.func29, Try.ntmps29
  go_wp2
  go_ret
  exact ⟨congrArg (fun z => Ending.returned (.int .u64 z)) (c_sub a b (by omega)), rfl⟩

set_option maxHeartbeats 400000 in
theorem f2_64 (a b : Nat) (w : World) (ha : a < 2 ^ 64) (hb : b < 2 ^ 64)  :
    Calls Try.prog 30 #[.int .u64 a, .int .u64 b, .int .i64 64] w fun e w' => e = .returned (.int .u64 (op 64 2 a b : Nat)) ∧ w = w' := by
  go_enter Try.func30, Try.ntmps30
  go_wp2
  go_ret
  exact ⟨congrArg (fun z => Ending.returned (.int .u64 z)) (c_mul a b), rfl⟩

set_option maxHeartbeats 400000 in
theorem f2_32 (a b : Nat) (w : World) (ha : a < 2 ^ 32) (hb : b < 2 ^ 32)  :
    Calls Try.prog 30 #[.int .u64 a, .int .u64 b, .int .i64 32] w fun e w' => e = .returned (.int .u64 (mid 2 a b : Nat)) ∧ w = w' := by
  go_enter Try.func30, Try.ntmps30
  go_wp2
  go_ret
  exact ⟨congrArg (fun z => Ending.returned (.int .u64 z)) (c_mul a b), rfl⟩

set_option maxHeartbeats 400000 in
theorem f3_64z (a b : Nat) (w : World) (ha : a < 2 ^ 64) (hb : b < 2 ^ 64) (hz : b = 0) :
    Calls Try.prog 31 #[.int .u64 a, .int .u64 b, .int .i64 64] w fun e w' => e = .returned (.int .u64 (op 64 3 a b : Nat)) ∧ w = w' := by
  subst hz
  go_enter Try.func31, Try.ntmps31
  go_wp2
  go_ret
  exact ⟨congrArg (fun z => Ending.returned (.int .u64 z)) (c_div0 a), rfl⟩

set_option maxHeartbeats 400000 in
theorem f3_64p (a b : Nat) (w : World) (ha : a < 2 ^ 64) (hb : b < 2 ^ 64) (hz : 0 < b) :
    Calls Try.prog 31 #[.int .u64 a, .int .u64 b, .int .i64 64] w fun e w' => e = .returned (.int .u64 (op 64 3 a b : Nat)) ∧ w = w' := by
  go_enter Try.func31, Try.ntmps31
  go_wp2
  go_ret
  exact ⟨congrArg (fun z => Ending.returned (.int .u64 z)) (c_div a b (by omega)), rfl⟩
theorem f3_64 (a b : Nat) (w : World) (ha : a < 2 ^ 64) (hb : b < 2 ^ 64) :
    Calls Try.prog 31 #[.int .u64 a, .int .u64 b, .int .i64 64] w fun e w' => e = .returned (.int .u64 (op 64 3 a b : Nat)) ∧ w = w' := by
  rcases Nat.eq_zero_or_pos b with h | h
  · exact f3_64z a b w ha hb h
  · exact f3_64p a b w ha hb h

set_option maxHeartbeats 400000 in
theorem f3_32z (a b : Nat) (w : World) (ha : a < 2 ^ 32) (hb : b < 2 ^ 32) (hz : b = 0) :
    Calls Try.prog 31 #[.int .u64 a, .int .u64 b, .int .i64 32] w fun e w' => e = .returned (.int .u64 (mid 3 a b : Nat)) ∧ w = w' := by
  subst hz
  go_enter Try.func31, Try.ntmps31
  go_wp2
  go_ret
  exact ⟨congrArg (fun z => Ending.returned (.int .u64 z)) (c_div0 a), rfl⟩

set_option maxHeartbeats 400000 in
theorem f3_32p (a b : Nat) (w : World) (ha : a < 2 ^ 32) (hb : b < 2 ^ 32) (hz : 0 < b) :
    Calls Try.prog 31 #[.int .u64 a, .int .u64 b, .int .i64 32] w fun e w' => e = .returned (.int .u64 (mid 3 a b : Nat)) ∧ w = w' := by
  go_enter Try.func31, Try.ntmps31
  go_wp2
  go_ret
  exact ⟨congrArg (fun z => Ending.returned (.int .u64 z)) (c_div a b (by omega)), rfl⟩
theorem f3_32 (a b : Nat) (w : World) (ha : a < 2 ^ 32) (hb : b < 2 ^ 32) :
    Calls Try.prog 31 #[.int .u64 a, .int .u64 b, .int .i64 32] w fun e w' => e = .returned (.int .u64 (mid 3 a b : Nat)) ∧ w = w' := by
  rcases Nat.eq_zero_or_pos b with h | h
  · exact f3_32z a b w ha hb h
  · exact f3_32p a b w ha hb h

set_option maxHeartbeats 400000 in
theorem f4_64 (a b : Nat) (w : World) (ha : a < 2 ^ 64) (hb : b < 2 ^ 64)  :
    Calls Try.prog 32 #[.int .u64 a, .int .u64 b, .int .i64 64] w fun e w' => e = .returned (.int .u64 (op 64 4 a b : Nat)) ∧ w = w' := by
  go_enter Try.func32, Try.ntmps32
  go_wp2
  go_ret
  exact ⟨congrArg (fun z => Ending.returned (.int .u64 z)) (u64_or_nat a b (by omega) (by omega)), rfl⟩

set_option maxHeartbeats 400000 in
theorem f4_32 (a b : Nat) (w : World) (ha : a < 2 ^ 32) (hb : b < 2 ^ 32)  :
    Calls Try.prog 32 #[.int .u64 a, .int .u64 b, .int .i64 32] w fun e w' => e = .returned (.int .u64 (mid 4 a b : Nat)) ∧ w = w' := by
  go_enter Try.func32, Try.ntmps32
  go_wp2
  go_ret
  exact ⟨congrArg (fun z => Ending.returned (.int .u64 z)) (u64_or_nat a b (by omega) (by omega)), rfl⟩

set_option maxHeartbeats 400000 in
theorem f5_64 (a b : Nat) (w : World) (ha : a < 2 ^ 64) (hb : b < 2 ^ 64)  :
    Calls Try.prog 33 #[.int .u64 a, .int .u64 b, .int .i64 64] w fun e w' => e = .returned (.int .u64 (op 64 5 a b : Nat)) ∧ w = w' := by
  go_enter Try.func33, Try.ntmps33
  go_wp2
  go_ret
  exact ⟨congrArg (fun z => Ending.returned (.int .u64 z)) (u64_and_nat a b (by omega) (by omega)), rfl⟩

set_option maxHeartbeats 400000 in
theorem f5_32 (a b : Nat) (w : World) (ha : a < 2 ^ 32) (hb : b < 2 ^ 32)  :
    Calls Try.prog 33 #[.int .u64 a, .int .u64 b, .int .i64 32] w fun e w' => e = .returned (.int .u64 (mid 5 a b : Nat)) ∧ w = w' := by
  go_enter Try.func33, Try.ntmps33
  go_wp2
  go_ret
  exact ⟨congrArg (fun z => Ending.returned (.int .u64 z)) (u64_and_nat a b (by omega) (by omega)), rfl⟩

set_option maxHeartbeats 400000 in
theorem f6_64 (a b : Nat) (w : World) (ha : a < 2 ^ 64) (hb : b < 2 ^ 64)  :
    Calls Try.prog 34 #[.int .u64 a, .int .u64 b, .int .i64 64] w fun e w' => e = .returned (.int .u64 (op 64 6 a b : Nat)) ∧ w = w' := by
  go_enter Try.func34, Try.ntmps34
  go_wp2
  go_ret
  exact ⟨congrArg (fun z => Ending.returned (.int .u64 z)) (c_lsh64 a b), rfl⟩

set_option maxHeartbeats 400000 in
theorem f6_32 (a b : Nat) (w : World) (ha : a < 2 ^ 32) (hb : b < 2 ^ 32)  :
    Calls Try.prog 34 #[.int .u64 a, .int .u64 b, .int .i64 32] w fun e w' => e = .returned (.int .u64 (mid 6 a b : Nat)) ∧ w = w' := by
  go_enter Try.func34, Try.ntmps34
  go_wp2
  go_ret
  exact ⟨congrArg (fun z => Ending.returned (.int .u64 z)) (c_lsh32 a b), rfl⟩

set_option maxHeartbeats 400000 in
theorem f7_64 (a b : Nat) (w : World) (ha : a < 2 ^ 64) (hb : b < 2 ^ 64)  :
    Calls Try.prog 35 #[.int .u64 a, .int .u64 b, .int .i64 64] w fun e w' => e = .returned (.int .u64 (op 64 7 a b : Nat)) ∧ w = w' := by
  go_enter Try.func35, Try.ntmps35
  go_wp2
  go_ret
  exact ⟨congrArg (fun z => Ending.returned (.int .u64 z)) (c_rsh64 a b), rfl⟩

set_option maxHeartbeats 400000 in
theorem f7_32 (a b : Nat) (w : World) (ha : a < 2 ^ 32) (hb : b < 2 ^ 32)  :
    Calls Try.prog 35 #[.int .u64 a, .int .u64 b, .int .i64 32] w fun e w' => e = .returned (.int .u64 (mid 7 a b : Nat)) ∧ w = w' := by
  go_enter Try.func35, Try.ntmps35
  go_wp2
  go_ret
  exact ⟨congrArg (fun z => Ending.returned (.int .u64 z)) (c_rsh32 a b), rfl⟩

set_option maxHeartbeats 400000 in
theorem f8_64 (a b : Nat) (w : World) (ha : a < 2 ^ 64) (hb : b < 2 ^ 64)  :
    Calls Try.prog 36 #[.int .u64 a, .int .u64 b, .int .i64 64] w fun e w' => e = .returned (.int .u64 (op 64 8 a b : Nat)) ∧ w = w' := by
  go_enter Try.func36, Try.ntmps36
  go_wp2
  go_ret
  exact ⟨congrArg (fun z => Ending.returned (.int .u64 z)) (c_neg a b (by omega)), rfl⟩

set_option maxHeartbeats 400000 in
theorem f8_32 (a b : Nat) (w : World) (ha : a < 2 ^ 32) (hb : b < 2 ^ 32)  :
    Calls Try.prog 36 #[.int .u64 a, .int .u64 b, .int .i64 32] w fun e w' => e = .returned (.int .u64 (mid 8 a b : Nat)) ∧ w = w' := by
  go_enter Try.func36, Try.ntmps36
  go_wp2
  go_ret
  exact ⟨congrArg (fun z => Ending.returned (.int .u64 z)) (c_neg a b (by omega)), rfl⟩

set_option maxHeartbeats 400000 in
theorem f9_64z (a b : Nat) (w : World) (ha : a < 2 ^ 64) (hb : b < 2 ^ 64) (hz : b = 0) :
    Calls Try.prog 37 #[.int .u64 a, .int .u64 b, .int .i64 64] w fun e w' => e = .returned (.int .u64 (op 64 9 a b : Nat)) ∧ w = w' := by
  subst hz
  go_enter Try.func37, Try.ntmps37
  go_wp2
  go_ret
  exact ⟨congrArg (fun z => Ending.returned (.int .u64 z)) (c_mod0 a), rfl⟩

set_option maxHeartbeats 400000 in
theorem f9_64p (a b : Nat) (w : World) (ha : a < 2 ^ 64) (hb : b < 2 ^ 64) (hz : 0 < b) :
    Calls Try.prog 37 #[.int .u64 a, .int .u64 b, .int .i64 64] w fun e w' => e = .returned (.int .u64 (op 64 9 a b : Nat)) ∧ w = w' := by
  go_enter Try.func37, Try.ntmps37
  go_wp2
  go_ret
  exact ⟨congrArg (fun z => Ending.returned (.int .u64 z)) (c_mod a b), rfl⟩
theorem f9_64 (a b : Nat) (w : World) (ha : a < 2 ^ 64) (hb : b < 2 ^ 64) :
    Calls Try.prog 37 #[.int .u64 a, .int .u64 b, .int .i64 64] w fun e w' => e = .returned (.int .u64 (op 64 9 a b : Nat)) ∧ w = w' := by
  rcases Nat.eq_zero_or_pos b with h | h
  · exact f9_64z a b w ha hb h
  · exact f9_64p a b w ha hb h

set_option maxHeartbeats 400000 in
theorem f9_32z (a b : Nat) (w : World) (ha : a < 2 ^ 32) (hb : b < 2 ^ 32) (hz : b = 0) :
    Calls Try.prog 37 #[.int .u64 a, .int .u64 b, .int .i64 32] w fun e w' => e = .returned (.int .u64 (mid 9 a b : Nat)) ∧ w = w' := by
  subst hz
  go_enter Try.func37, Try.ntmps37
  go_wp2
  go_ret
  exact ⟨congrArg (fun z => Ending.returned (.int .u64 z)) (c_mod0 a), rfl⟩

set_option maxHeartbeats 400000 in
theorem f9_32p (a b : Nat) (w : World) (ha : a < 2 ^ 32) (hb : b < 2 ^ 32) (hz : 0 < b) :
    Calls Try.prog 37 #[.int .u64 a, .int .u64 b, .int .i64 32] w fun e w' => e = .returned (.int .u64 (mid 9 a b : Nat)) ∧ w = w' := by
  go_enter Try.func37, Try.ntmps37
  go_wp2
  go_ret
  exact ⟨congrArg (fun z => Ending.returned (.int .u64 z)) (c_mod a b), rfl⟩
theorem f9_32 (a b : Nat) (w : World) (ha : a < 2 ^ 32) (hb : b < 2 ^ 32) :
    Calls Try.prog 37 #[.int .u64 a, .int .u64 b, .int .i64 32] w fun e w' => e = .returned (.int .u64 (mid 9 a b : Nat)) ∧ w = w' := by
  rcases Nat.eq_zero_or_pos b with h | h
  · exact f9_32z a b w ha hb h
  · exact f9_32p a b w ha hb h

set_option maxHeartbeats 400000 in
theorem f10_64 (a b : Nat) (w : World) (ha : a < 2 ^ 64) (hb : b < 2 ^ 64)  :
    Calls Try.prog 38 #[.int .u64 a, .int .u64 b, .int .i64 64] w fun e w' => e = .returned (.int .u64 (op 64 10 a b : Nat)) ∧ w = w' := by
  go_enter Try.func38, Try.ntmps38
  go_wp2
  go_ret
  exact ⟨congrArg (fun z => Ending.returned (.int .u64 z)) (u64_xor_nat a b (by omega) (by omega)), rfl⟩

set_option maxHeartbeats 400000 in
theorem f10_32 (a b : Nat) (w : World) (ha : a < 2 ^ 32) (hb : b < 2 ^ 32)  :
    Calls Try.prog 38 #[.int .u64 a, .int .u64 b, .int .i64 32] w fun e w' => e = .returned (.int .u64 (mid 10 a b : Nat)) ∧ w = w' := by
  go_enter Try.func38, Try.ntmps38
  go_wp2
  go_ret
  exact ⟨congrArg (fun z => Ending.returned (.int .u64 z)) (u64_xor_nat a b (by omega) (by omega)), rfl⟩

set_option maxHeartbeats 400000 in
theorem f11_64 (a b : Nat) (w : World) (ha : a < 2 ^ 64) (hb : b < 2 ^ 64)  :
    Calls Try.prog 39 #[.int .u64 a, .int .u64 b, .int .i64 64] w fun e w' => e = .returned (.int .u64 (op 64 11 a b : Nat)) ∧ w = w' := by
  go_enter Try.func39, Try.ntmps39
  go_wp2
  go_ret
  exact ⟨congrArg (fun z => Ending.returned (.int .u64 z)) (rfl), rfl⟩

set_option maxHeartbeats 400000 in
theorem f11_32 (a b : Nat) (w : World) (ha : a < 2 ^ 32) (hb : b < 2 ^ 32)  :
    Calls Try.prog 39 #[.int .u64 a, .int .u64 b, .int .i64 32] w fun e w' => e = .returned (.int .u64 (mid 11 a b : Nat)) ∧ w = w' := by
  go_enter Try.func39, Try.ntmps39
  go_wp2
  go_ret
  exact ⟨congrArg (fun z => Ending.returned (.int .u64 z)) (rfl), rfl⟩

set_option maxHeartbeats 400000 in
theorem f12_64 (a b : Nat) (w : World) (ha : a < 2 ^ 64) (hb : b < 2 ^ 64)  :
    Calls Try.prog 40 #[.int .u64 a, .int .u64 b, .int .i64 64] w fun e w' => e = .returned (.int .u64 (op 64 12 a b : Nat)) ∧ w = w' := by
  go_enter Try.func40, Try.ntmps40
  go_wp2
  go_ret
  exact ⟨congrArg (fun z => Ending.returned (.int .u64 z)) (c_ash64 a b ha), rfl⟩

set_option maxHeartbeats 400000 in
theorem f12_32 (a b : Nat) (w : World) (ha : a < 2 ^ 32) (hb : b < 2 ^ 32)  :
    Calls Try.prog 40 #[.int .u64 a, .int .u64 b, .int .i64 32] w fun e w' => e = .returned (.int .u64 (mid 12 a b : Nat)) ∧ w = w' := by
  go_enter Try.func40, Try.ntmps40
  go_wp2
  go_ret
  exact ⟨congrArg (fun z => Ending.returned (.int .u64 z)) (c_ash32m a b ha), rfl⟩

end Go.Proofs.Ytdpnhpennceldaa
