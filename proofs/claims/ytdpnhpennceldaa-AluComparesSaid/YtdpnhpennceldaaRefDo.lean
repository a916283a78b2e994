/-
  THE WALK of the reference's Do: each operation at two numbers of 64 bits, and at the lowest 32 bits of two; no operation elsewhere.
-/
import Derived.Test.YtdpnhpennceldaaWalks
import Derived.Lib.Hide
import Derived.Outline
namespace Go.Proofs.Ytdpnhpennceldaa
open Go.RowKit M
set_option linter.unusedVariables false
set_option maxHeartbeats 400000 in
theorem cut_narrow {z : Int} {m r : Nat} (hz : z = (m : Int)) (hr : m % 2 ^ 32 = r) (w : World) :
    Calls Try.prog 23 #[.int .u64 z, .bool false] w fun e w' => e = .returned (.int .u64 r) ∧ w = w' := by
  subst hz
  have HE := Lib.hid hr
  clear hr
  go_enter Try.func23, Try.ntmps23
  go_wp2
  go_ret
  exact ⟨congrArg (fun z : Nat => Ending.returned (.int .u64 (z : Int))) HE.out, rfl⟩
set_option maxHeartbeats 400000 in
theorem cut_wide {z : Int} {r : Nat} (hz : z = (r : Int)) (w : World) :
    Calls Try.prog 23 #[.int .u64 z, .bool true] w fun e w' => e = .returned (.int .u64 r) ∧ w = w' := by
  subst hz
  go_enter Try.func23, Try.ntmps23
  go_wp2
  go_ret
  exact ⟨rfl, rfl⟩
theorem doV_cut (o x y a b : Nat) (ha : x % 2 ^ 32 = a) (hb : y % 2 ^ 32 = b) : op 32 o a b = doV o false x y := by
  subst ha hb; rfl

set_option maxRecDepth 100000 in
set_option maxHeartbeats 400000 in
theorem ref_0_64 (x y : Nat) (w : World) (hx : x < 2 ^ 64) (hy : y < 2 ^ 64)  :
    Calls Try.prog 12 #[.int .i64 0, .bool true, .int .u64 x, .int .u64 y] w fun e w' => e = .returned (.tuple #[.int .u64 (doV 0 true x y : Nat), .bool true]) ∧ w = w' := by
  go_enter Try.func12, Try.ntmps12
  go_wp2_with fail
  refine (cut_wide (r := x) rfl _).mono ?_; rintro e w' ⟨rfl, rfl⟩
  go_wp2_with fail
  refine (cut_wide (r := y) rfl _).mono ?_; rintro e w' ⟨rfl, rfl⟩
  go_wp2_with fail
  refine (cut_wide (c_add x y) _).mono ?_; rintro e w' ⟨rfl, rfl⟩
  go_wp2_with fail
  go_ret2
  exact ⟨rfl, rfl⟩

set_option maxRecDepth 100000 in
set_option maxHeartbeats 400000 in
theorem ref_0_32 (x y a b : Nat) (w : World) (ha : a < 2 ^ 32) (hb : b < 2 ^ 32) (hxa : Hid (x % 2 ^ 32 = a)) (hyb : Hid (y % 2 ^ 32 = b))  :
    Calls Try.prog 12 #[.int .i64 0, .bool false, .int .u64 x, .int .u64 y] w fun e w' => e = .returned (.tuple #[.int .u64 (op 32 0 a b : Nat), .bool true]) ∧ w = w' := by
  go_enter Try.func12, Try.ntmps12
  go_wp2_with fail
  refine (cut_narrow rfl hxa.out _).mono ?_; rintro e w' ⟨rfl, rfl⟩
  go_wp2_with fail
  refine (cut_narrow rfl hyb.out _).mono ?_; rintro e w' ⟨rfl, rfl⟩
  go_wp2_with fail
  refine (cut_narrow (c_add32 a b ha hb) (mid_mod (o := 0) (by decide) ha hb) _).mono ?_; rintro e w' ⟨rfl, rfl⟩
  go_wp2_with fail
  go_ret2
  exact ⟨rfl, rfl⟩

set_option maxRecDepth 100000 in
set_option maxHeartbeats 400000 in
theorem ref_1_64 (x y : Nat) (w : World) (hx : x < 2 ^ 64) (hy : y < 2 ^ 64)  :
    Calls Try.prog 12 #[.int .i64 1, .bool true, .int .u64 x, .int .u64 y] w fun e w' => e = .returned (.tuple #[.int .u64 (doV 1 true x y : Nat), .bool true]) ∧ w = w' := by
  go_enter Try.func12, Try.ntmps12
  go_wp2_with fail
  refine (cut_wide (r := x) rfl _).mono ?_; rintro e w' ⟨rfl, rfl⟩
  go_wp2_with fail
  refine (cut_wide (r := y) rfl _).mono ?_; rintro e w' ⟨rfl, rfl⟩
  go_wp2_with fail
  refine (cut_wide (c_sub x y (by omega)) _).mono ?_; rintro e w' ⟨rfl, rfl⟩
  go_wp2_with fail
  go_ret2
  exact ⟨rfl, rfl⟩

set_option maxRecDepth 100000 in
set_option maxHeartbeats 400000 in
theorem ref_1_32 (x y a b : Nat) (w : World) (ha : a < 2 ^ 32) (hb : b < 2 ^ 32) (hxa : Hid (x % 2 ^ 32 = a)) (hyb : Hid (y % 2 ^ 32 = b))  :
    Calls Try.prog 12 #[.int .i64 1, .bool false, .int .u64 x, .int .u64 y] w fun e w' => e = .returned (.tuple #[.int .u64 (op 32 1 a b : Nat), .bool true]) ∧ w = w' := by
  go_enter Try.func12, Try.ntmps12
  go_wp2_with fail
  refine (cut_narrow rfl hxa.out _).mono ?_; rintro e w' ⟨rfl, rfl⟩
  go_wp2_with fail
  refine (cut_narrow rfl hyb.out _).mono ?_; rintro e w' ⟨rfl, rfl⟩
  go_wp2_with fail
  refine (cut_narrow (c_sub a b (by omega)) (mid_mod (o := 1) (by decide) ha hb) _).mono ?_; rintro e w' ⟨rfl, rfl⟩
  go_wp2_with fail
  go_ret2
  exact ⟨rfl, rfl⟩

set_option maxRecDepth 100000 in
set_option maxHeartbeats 400000 in
theorem ref_2_64 (x y : Nat) (w : World) (hx : x < 2 ^ 64) (hy : y < 2 ^ 64)  :
    Calls Try.prog 12 #[.int .i64 2, .bool true, .int .u64 x, .int .u64 y] w fun e w' => e = .returned (.tuple #[.int .u64 (doV 2 true x y : Nat), .bool true]) ∧ w = w' := by
  go_enter Try.func12, Try.ntmps12
  go_wp2_with fail
  refine (cut_wide (r := x) rfl _).mono ?_; rintro e w' ⟨rfl, rfl⟩
  go_wp2_with fail
  refine (cut_wide (r := y) rfl _).mono ?_; rintro e w' ⟨rfl, rfl⟩
  go_wp2_with fail
  refine (cut_wide (c_mul x y) _).mono ?_; rintro e w' ⟨rfl, rfl⟩
  go_wp2_with fail
  go_ret2
  exact ⟨rfl, rfl⟩

set_option maxRecDepth 100000 in
set_option maxHeartbeats 400000 in
theorem ref_2_32 (x y a b : Nat) (w : World) (ha : a < 2 ^ 32) (hb : b < 2 ^ 32) (hxa : Hid (x % 2 ^ 32 = a)) (hyb : Hid (y % 2 ^ 32 = b))  :
    Calls Try.prog 12 #[.int .i64 2, .bool false, .int .u64 x, .int .u64 y] w fun e w' => e = .returned (.tuple #[.int .u64 (op 32 2 a b : Nat), .bool true]) ∧ w = w' := by
  go_enter Try.func12, Try.ntmps12
  go_wp2_with fail
  refine (cut_narrow rfl hxa.out _).mono ?_; rintro e w' ⟨rfl, rfl⟩
  go_wp2_with fail
  refine (cut_narrow rfl hyb.out _).mono ?_; rintro e w' ⟨rfl, rfl⟩
  go_wp2_with fail
  refine (cut_narrow (c_mul a b) (mid_mod (o := 2) (by decide) ha hb) _).mono ?_; rintro e w' ⟨rfl, rfl⟩
  go_wp2_with fail
  go_ret2
  exact ⟨rfl, rfl⟩

set_option maxRecDepth 100000 in
set_option maxHeartbeats 400000 in
theorem ref_3_64z (x y : Nat) (w : World) (hx : x < 2 ^ 64) (hy : y < 2 ^ 64) (hz : y = 0) :
    Calls Try.prog 12 #[.int .i64 3, .bool true, .int .u64 x, .int .u64 y] w fun e w' => e = .returned (.tuple #[.int .u64 (doV 3 true x y : Nat), .bool true]) ∧ w = w' := by
  subst hz
  go_enter Try.func12, Try.ntmps12
  go_wp2_with fail
  refine (cut_wide (r := x) rfl _).mono ?_; rintro e w' ⟨rfl, rfl⟩
  go_wp2_with fail
  refine (cut_wide (r := 0) rfl _).mono ?_; rintro e w' ⟨rfl, rfl⟩
  go_wp2_with fail
  refine (cut_wide (c_div0 x) _).mono ?_; rintro e w' ⟨rfl, rfl⟩
  go_wp2_with fail
  go_ret2
  exact ⟨rfl, rfl⟩

set_option maxRecDepth 100000 in
set_option maxHeartbeats 400000 in
theorem ref_3_64p (x y : Nat) (w : World) (hx : x < 2 ^ 64) (hy : y < 2 ^ 64) (hz : 0 < y) :
    Calls Try.prog 12 #[.int .i64 3, .bool true, .int .u64 x, .int .u64 y] w fun e w' => e = .returned (.tuple #[.int .u64 (doV 3 true x y : Nat), .bool true]) ∧ w = w' := by
  go_enter Try.func12, Try.ntmps12
  go_wp2_with fail
  refine (cut_wide (r := x) rfl _).mono ?_; rintro e w' ⟨rfl, rfl⟩
  go_wp2_with fail
  refine (cut_wide (r := y) rfl _).mono ?_; rintro e w' ⟨rfl, rfl⟩
  go_wp2_with fail
  refine (cut_wide (c_div x y (by omega)) _).mono ?_; rintro e w' ⟨rfl, rfl⟩
  go_wp2_with fail
  go_ret2
  exact ⟨rfl, rfl⟩

set_option maxRecDepth 100000 in
set_option maxHeartbeats 400000 in
theorem ref_3_32z (x y a b : Nat) (w : World) (ha : a < 2 ^ 32) (hb : b < 2 ^ 32) (hxa : Hid (x % 2 ^ 32 = a)) (hyb : Hid (y % 2 ^ 32 = b)) (hz : b = 0) :
    Calls Try.prog 12 #[.int .i64 3, .bool false, .int .u64 x, .int .u64 y] w fun e w' => e = .returned (.tuple #[.int .u64 (op 32 3 a b : Nat), .bool true]) ∧ w = w' := by
  subst hz
  go_enter Try.func12, Try.ntmps12
  go_wp2_with fail
  refine (cut_narrow rfl hxa.out _).mono ?_; rintro e w' ⟨rfl, rfl⟩
  go_wp2_with fail
  refine (cut_narrow rfl hyb.out _).mono ?_; rintro e w' ⟨rfl, rfl⟩
  go_wp2_with fail
  refine (cut_narrow (c_div0 a) (mid_mod (o := 3) (by decide) ha hb) _).mono ?_; rintro e w' ⟨rfl, rfl⟩
  go_wp2_with fail
  go_ret2
  exact ⟨rfl, rfl⟩

set_option maxRecDepth 100000 in
set_option maxHeartbeats 400000 in
theorem ref_3_32p (x y a b : Nat) (w : World) (ha : a < 2 ^ 32) (hb : b < 2 ^ 32) (hxa : Hid (x % 2 ^ 32 = a)) (hyb : Hid (y % 2 ^ 32 = b)) (hz : 0 < b) :
    Calls Try.prog 12 #[.int .i64 3, .bool false, .int .u64 x, .int .u64 y] w fun e w' => e = .returned (.tuple #[.int .u64 (op 32 3 a b : Nat), .bool true]) ∧ w = w' := by
  go_enter Try.func12, Try.ntmps12
  go_wp2_with fail
  refine (cut_narrow rfl hxa.out _).mono ?_; rintro e w' ⟨rfl, rfl⟩
  go_wp2_with fail
  refine (cut_narrow rfl hyb.out _).mono ?_; rintro e w' ⟨rfl, rfl⟩
  go_wp2_with fail
  refine (cut_narrow (c_div a b (by omega)) (mid_mod (o := 3) (by decide) ha hb) _).mono ?_; rintro e w' ⟨rfl, rfl⟩
  go_wp2_with fail
  go_ret2
  exact ⟨rfl, rfl⟩

set_option maxRecDepth 100000 in
set_option maxHeartbeats 400000 in
theorem ref_4_64 (x y : Nat) (w : World) (hx : x < 2 ^ 64) (hy : y < 2 ^ 64)  :
    Calls Try.prog 12 #[.int .i64 4, .bool true, .int .u64 x, .int .u64 y] w fun e w' => e = .returned (.tuple #[.int .u64 (doV 4 true x y : Nat), .bool true]) ∧ w = w' := by
  go_enter Try.func12, Try.ntmps12
  go_wp2_with fail
  refine (cut_wide (r := x) rfl _).mono ?_; rintro e w' ⟨rfl, rfl⟩
  go_wp2_with fail
  refine (cut_wide (r := y) rfl _).mono ?_; rintro e w' ⟨rfl, rfl⟩
  go_wp2_with fail
  refine (cut_wide (u64_or_nat x y (by omega) (by omega)) _).mono ?_; rintro e w' ⟨rfl, rfl⟩
  go_wp2_with fail
  go_ret2
  exact ⟨rfl, rfl⟩

set_option maxRecDepth 100000 in
set_option maxHeartbeats 400000 in
theorem ref_4_32 (x y a b : Nat) (w : World) (ha : a < 2 ^ 32) (hb : b < 2 ^ 32) (hxa : Hid (x % 2 ^ 32 = a)) (hyb : Hid (y % 2 ^ 32 = b))  :
    Calls Try.prog 12 #[.int .i64 4, .bool false, .int .u64 x, .int .u64 y] w fun e w' => e = .returned (.tuple #[.int .u64 (op 32 4 a b : Nat), .bool true]) ∧ w = w' := by
  go_enter Try.func12, Try.ntmps12
  go_wp2_with fail
  refine (cut_narrow rfl hxa.out _).mono ?_; rintro e w' ⟨rfl, rfl⟩
  go_wp2_with fail
  refine (cut_narrow rfl hyb.out _).mono ?_; rintro e w' ⟨rfl, rfl⟩
  go_wp2_with fail
  refine (cut_narrow (u64_or_nat a b (by omega) (by omega)) (mid_mod (o := 4) (by decide) ha hb) _).mono ?_; rintro e w' ⟨rfl, rfl⟩
  go_wp2_with fail
  go_ret2
  exact ⟨rfl, rfl⟩

set_option maxRecDepth 100000 in
set_option maxHeartbeats 400000 in
theorem ref_5_64 (x y : Nat) (w : World) (hx : x < 2 ^ 64) (hy : y < 2 ^ 64)  :
    Calls Try.prog 12 #[.int .i64 5, .bool true, .int .u64 x, .int .u64 y] w fun e w' => e = .returned (.tuple #[.int .u64 (doV 5 true x y : Nat), .bool true]) ∧ w = w' := by
  go_enter Try.func12, Try.ntmps12
  go_wp2_with fail
  refine (cut_wide (r := x) rfl _).mono ?_; rintro e w' ⟨rfl, rfl⟩
  go_wp2_with fail
  refine (cut_wide (r := y) rfl _).mono ?_; rintro e w' ⟨rfl, rfl⟩
  go_wp2_with fail
  refine (cut_wide (u64_and_nat x y (by omega) (by omega)) _).mono ?_; rintro e w' ⟨rfl, rfl⟩
  go_wp2_with fail
  go_ret2
  exact ⟨rfl, rfl⟩

set_option maxRecDepth 100000 in
set_option maxHeartbeats 400000 in
theorem ref_5_32 (x y a b : Nat) (w : World) (ha : a < 2 ^ 32) (hb : b < 2 ^ 32) (hxa : Hid (x % 2 ^ 32 = a)) (hyb : Hid (y % 2 ^ 32 = b))  :
    Calls Try.prog 12 #[.int .i64 5, .bool false, .int .u64 x, .int .u64 y] w fun e w' => e = .returned (.tuple #[.int .u64 (op 32 5 a b : Nat), .bool true]) ∧ w = w' := by
  go_enter Try.func12, Try.ntmps12
  go_wp2_with fail
  refine (cut_narrow rfl hxa.out _).mono ?_; rintro e w' ⟨rfl, rfl⟩
  go_wp2_with fail
  refine (cut_narrow rfl hyb.out _).mono ?_; rintro e w' ⟨rfl, rfl⟩
  go_wp2_with fail
  refine (cut_narrow (u64_and_nat a b (by omega) (by omega)) (mid_mod (o := 5) (by decide) ha hb) _).mono ?_; rintro e w' ⟨rfl, rfl⟩
  go_wp2_with fail
  go_ret2
  exact ⟨rfl, rfl⟩

set_option maxRecDepth 100000 in
set_option maxHeartbeats 400000 in
theorem ref_6_64 (x y : Nat) (w : World) (hx : x < 2 ^ 64) (hy : y < 2 ^ 64)  :
    Calls Try.prog 12 #[.int .i64 6, .bool true, .int .u64 x, .int .u64 y] w fun e w' => e = .returned (.tuple #[.int .u64 (doV 6 true x y : Nat), .bool true]) ∧ w = w' := by
  go_enter Try.func12, Try.ntmps12
  go_wp2_with fail
  refine (cut_wide (r := x) rfl _).mono ?_; rintro e w' ⟨rfl, rfl⟩
  go_wp2_with fail
  refine (cut_wide (r := y) rfl _).mono ?_; rintro e w' ⟨rfl, rfl⟩
  go_wp2_with fail
  refine (cut_wide (c_lsh64 x y) _).mono ?_; rintro e w' ⟨rfl, rfl⟩
  go_wp2_with fail
  go_ret2
  exact ⟨rfl, rfl⟩

set_option maxRecDepth 100000 in
set_option maxHeartbeats 400000 in
theorem ref_6_32 (x y a b : Nat) (w : World) (ha : a < 2 ^ 32) (hb : b < 2 ^ 32) (hxa : Hid (x % 2 ^ 32 = a)) (hyb : Hid (y % 2 ^ 32 = b))  :
    Calls Try.prog 12 #[.int .i64 6, .bool false, .int .u64 x, .int .u64 y] w fun e w' => e = .returned (.tuple #[.int .u64 (op 32 6 a b : Nat), .bool true]) ∧ w = w' := by
  go_enter Try.func12, Try.ntmps12
  go_wp2_with fail
  refine (cut_narrow rfl hxa.out _).mono ?_; rintro e w' ⟨rfl, rfl⟩
  go_wp2_with fail
  refine (cut_narrow rfl hyb.out _).mono ?_; rintro e w' ⟨rfl, rfl⟩
  go_wp2_with fail
  refine (cut_narrow (c_lsh32 a b) (mid_mod (o := 6) (by decide) ha hb) _).mono ?_; rintro e w' ⟨rfl, rfl⟩
  go_wp2_with fail
  go_ret2
  exact ⟨rfl, rfl⟩

set_option maxRecDepth 100000 in
set_option maxHeartbeats 400000 in
theorem ref_7_64 (x y : Nat) (w : World) (hx : x < 2 ^ 64) (hy : y < 2 ^ 64)  :
    Calls Try.prog 12 #[.int .i64 7, .bool true, .int .u64 x, .int .u64 y] w fun e w' => e = .returned (.tuple #[.int .u64 (doV 7 true x y : Nat), .bool true]) ∧ w = w' := by
  go_enter Try.func12, Try.ntmps12
  go_wp2_with fail
  refine (cut_wide (r := x) rfl _).mono ?_; rintro e w' ⟨rfl, rfl⟩
  go_wp2_with fail
  refine (cut_wide (r := y) rfl _).mono ?_; rintro e w' ⟨rfl, rfl⟩
  go_wp2_with fail
  refine (cut_wide (c_rsh64 x y) _).mono ?_; rintro e w' ⟨rfl, rfl⟩
  go_wp2_with fail
  go_ret2
  exact ⟨rfl, rfl⟩

set_option maxRecDepth 100000 in
set_option maxHeartbeats 400000 in
theorem ref_7_32 (x y a b : Nat) (w : World) (ha : a < 2 ^ 32) (hb : b < 2 ^ 32) (hxa : Hid (x % 2 ^ 32 = a)) (hyb : Hid (y % 2 ^ 32 = b))  :
    Calls Try.prog 12 #[.int .i64 7, .bool false, .int .u64 x, .int .u64 y] w fun e w' => e = .returned (.tuple #[.int .u64 (op 32 7 a b : Nat), .bool true]) ∧ w = w' := by
  go_enter Try.func12, Try.ntmps12
  go_wp2_with fail
  refine (cut_narrow rfl hxa.out _).mono ?_; rintro e w' ⟨rfl, rfl⟩
  go_wp2_with fail
  refine (cut_narrow rfl hyb.out _).mono ?_; rintro e w' ⟨rfl, rfl⟩
  go_wp2_with fail
  refine (cut_narrow (c_rsh32 a b) (mid_mod (o := 7) (by decide) ha hb) _).mono ?_; rintro e w' ⟨rfl, rfl⟩
  go_wp2_with fail
  go_ret2
  exact ⟨rfl, rfl⟩

set_option maxRecDepth 100000 in
set_option maxHeartbeats 400000 in
theorem ref_8_64 (x y : Nat) (w : World) (hx : x < 2 ^ 64) (hy : y < 2 ^ 64)  :
    Calls Try.prog 12 #[.int .i64 8, .bool true, .int .u64 x, .int .u64 y] w fun e w' => e = .returned (.tuple #[.int .u64 (doV 8 true x y : Nat), .bool true]) ∧ w = w' := by
  go_enter Try.func12, Try.ntmps12
  go_wp2_with fail
  refine (cut_wide (r := x) rfl _).mono ?_; rintro e w' ⟨rfl, rfl⟩
  go_wp2_with fail
  refine (cut_wide (r := y) rfl _).mono ?_; rintro e w' ⟨rfl, rfl⟩
  go_wp2_with fail
  refine (cut_wide (c_neg x y (by omega)) _).mono ?_; rintro e w' ⟨rfl, rfl⟩
  go_wp2_with fail
  go_ret2
  exact ⟨rfl, rfl⟩

set_option maxRecDepth 100000 in
set_option maxHeartbeats 400000 in
theorem ref_8_32 (x y a b : Nat) (w : World) (ha : a < 2 ^ 32) (hb : b < 2 ^ 32) (hxa : Hid (x % 2 ^ 32 = a)) (hyb : Hid (y % 2 ^ 32 = b))  :
    Calls Try.prog 12 #[.int .i64 8, .bool false, .int .u64 x, .int .u64 y] w fun e w' => e = .returned (.tuple #[.int .u64 (op 32 8 a b : Nat), .bool true]) ∧ w = w' := by
  go_enter Try.func12, Try.ntmps12
  go_wp2_with fail
  refine (cut_narrow rfl hxa.out _).mono ?_; rintro e w' ⟨rfl, rfl⟩
  go_wp2_with fail
  refine (cut_narrow rfl hyb.out _).mono ?_; rintro e w' ⟨rfl, rfl⟩
  go_wp2_with fail
  refine (cut_narrow (c_neg a b (by omega)) (mid_mod (o := 8) (by decide) ha hb) _).mono ?_; rintro e w' ⟨rfl, rfl⟩
  go_wp2_with fail
  go_ret2
  exact ⟨rfl, rfl⟩

set_option maxRecDepth 100000 in
set_option maxHeartbeats 400000 in
theorem ref_9_64z (x y : Nat) (w : World) (hx : x < 2 ^ 64) (hy : y < 2 ^ 64) (hz : y = 0) :
    Calls Try.prog 12 #[.int .i64 9, .bool true, .int .u64 x, .int .u64 y] w fun e w' => e = .returned (.tuple #[.int .u64 (doV 9 true x y : Nat), .bool true]) ∧ w = w' := by
  subst hz
  go_enter Try.func12, Try.ntmps12
  go_wp2_with fail
  refine (cut_wide (r := x) rfl _).mono ?_; rintro e w' ⟨rfl, rfl⟩
  go_wp2_with fail
  refine (cut_wide (r := 0) rfl _).mono ?_; rintro e w' ⟨rfl, rfl⟩
  go_wp2_with fail
  refine (cut_wide (c_mod0 x) _).mono ?_; rintro e w' ⟨rfl, rfl⟩
  go_wp2_with fail
  go_ret2
  exact ⟨rfl, rfl⟩

set_option maxRecDepth 100000 in
set_option maxHeartbeats 400000 in
theorem ref_9_64p (x y : Nat) (w : World) (hx : x < 2 ^ 64) (hy : y < 2 ^ 64) (hz : 0 < y) :
    Calls Try.prog 12 #[.int .i64 9, .bool true, .int .u64 x, .int .u64 y] w fun e w' => e = .returned (.tuple #[.int .u64 (doV 9 true x y : Nat), .bool true]) ∧ w = w' := by
  go_enter Try.func12, Try.ntmps12
  go_wp2_with fail
  refine (cut_wide (r := x) rfl _).mono ?_; rintro e w' ⟨rfl, rfl⟩
  go_wp2_with fail
  refine (cut_wide (r := y) rfl _).mono ?_; rintro e w' ⟨rfl, rfl⟩
  go_wp2_with fail
  refine (cut_wide (c_mod x y) _).mono ?_; rintro e w' ⟨rfl, rfl⟩
  go_wp2_with fail
  go_ret2
  exact ⟨rfl, rfl⟩

set_option maxRecDepth 100000 in
set_option maxHeartbeats 400000 in
theorem ref_9_32z (x y a b : Nat) (w : World) (ha : a < 2 ^ 32) (hb : b < 2 ^ 32) (hxa : Hid (x % 2 ^ 32 = a)) (hyb : Hid (y % 2 ^ 32 = b)) (hz : b = 0) :
    Calls Try.prog 12 #[.int .i64 9, .bool false, .int .u64 x, .int .u64 y] w fun e w' => e = .returned (.tuple #[.int .u64 (op 32 9 a b : Nat), .bool true]) ∧ w = w' := by
  subst hz
  go_enter Try.func12, Try.ntmps12
  go_wp2_with fail
  refine (cut_narrow rfl hxa.out _).mono ?_; rintro e w' ⟨rfl, rfl⟩
  go_wp2_with fail
  refine (cut_narrow rfl hyb.out _).mono ?_; rintro e w' ⟨rfl, rfl⟩
  go_wp2_with fail
  refine (cut_narrow (c_mod0 a) (mid_mod (o := 9) (by decide) ha hb) _).mono ?_; rintro e w' ⟨rfl, rfl⟩
  go_wp2_with fail
  go_ret2
  exact ⟨rfl, rfl⟩

set_option maxRecDepth 100000 in
set_option maxHeartbeats 400000 in
theorem ref_9_32p (x y a b : Nat) (w : World) (ha : a < 2 ^ 32) (hb : b < 2 ^ 32) (hxa : Hid (x % 2 ^ 32 = a)) (hyb : Hid (y % 2 ^ 32 = b)) (hz : 0 < b) :
    Calls Try.prog 12 #[.int .i64 9, .bool false, .int .u64 x, .int .u64 y] w fun e w' => e = .returned (.tuple #[.int .u64 (op 32 9 a b : Nat), .bool true]) ∧ w = w' := by
  go_enter Try.func12, Try.ntmps12
  go_wp2_with fail
  refine (cut_narrow rfl hxa.out _).mono ?_; rintro e w' ⟨rfl, rfl⟩
  go_wp2_with fail
  refine (cut_narrow rfl hyb.out _).mono ?_; rintro e w' ⟨rfl, rfl⟩
  go_wp2_with fail
  refine (cut_narrow (c_mod a b) (mid_mod (o := 9) (by decide) ha hb) _).mono ?_; rintro e w' ⟨rfl, rfl⟩
  go_wp2_with fail
  go_ret2
  exact ⟨rfl, rfl⟩

set_option maxRecDepth 100000 in
set_option maxHeartbeats 400000 in
theorem ref_10_64 (x y : Nat) (w : World) (hx : x < 2 ^ 64) (hy : y < 2 ^ 64)  :
    Calls Try.prog 12 #[.int .i64 10, .bool true, .int .u64 x, .int .u64 y] w fun e w' => e = .returned (.tuple #[.int .u64 (doV 10 true x y : Nat), .bool true]) ∧ w = w' := by
  go_enter Try.func12, Try.ntmps12
  go_wp2_with fail
  refine (cut_wide (r := x) rfl _).mono ?_; rintro e w' ⟨rfl, rfl⟩
  go_wp2_with fail
  refine (cut_wide (r := y) rfl _).mono ?_; rintro e w' ⟨rfl, rfl⟩
  go_wp2_with fail
  refine (cut_wide (u64_xor_nat x y (by omega) (by omega)) _).mono ?_; rintro e w' ⟨rfl, rfl⟩
  go_wp2_with fail
  go_ret2
  exact ⟨rfl, rfl⟩

set_option maxRecDepth 100000 in
set_option maxHeartbeats 400000 in
theorem ref_10_32 (x y a b : Nat) (w : World) (ha : a < 2 ^ 32) (hb : b < 2 ^ 32) (hxa : Hid (x % 2 ^ 32 = a)) (hyb : Hid (y % 2 ^ 32 = b))  :
    Calls Try.prog 12 #[.int .i64 10, .bool false, .int .u64 x, .int .u64 y] w fun e w' => e = .returned (.tuple #[.int .u64 (op 32 10 a b : Nat), .bool true]) ∧ w = w' := by
  go_enter Try.func12, Try.ntmps12
  go_wp2_with fail
  refine (cut_narrow rfl hxa.out _).mono ?_; rintro e w' ⟨rfl, rfl⟩
  go_wp2_with fail
  refine (cut_narrow rfl hyb.out _).mono ?_; rintro e w' ⟨rfl, rfl⟩
  go_wp2_with fail
  refine (cut_narrow (u64_xor_nat a b (by omega) (by omega)) (mid_mod (o := 10) (by decide) ha hb) _).mono ?_; rintro e w' ⟨rfl, rfl⟩
  go_wp2_with fail
  go_ret2
  exact ⟨rfl, rfl⟩

set_option maxRecDepth 100000 in
set_option maxHeartbeats 400000 in
theorem ref_11_64 (x y : Nat) (w : World) (hx : x < 2 ^ 64) (hy : y < 2 ^ 64)  :
    Calls Try.prog 12 #[.int .i64 11, .bool true, .int .u64 x, .int .u64 y] w fun e w' => e = .returned (.tuple #[.int .u64 (doV 11 true x y : Nat), .bool true]) ∧ w = w' := by
  go_enter Try.func12, Try.ntmps12
  go_wp2_with fail
  refine (cut_wide (r := x) rfl _).mono ?_; rintro e w' ⟨rfl, rfl⟩
  go_wp2_with fail
  refine (cut_wide (r := y) rfl _).mono ?_; rintro e w' ⟨rfl, rfl⟩
  go_wp2_with fail
  refine (cut_wide (rfl) _).mono ?_; rintro e w' ⟨rfl, rfl⟩
  go_wp2_with fail
  go_ret2
  exact ⟨rfl, rfl⟩

set_option maxRecDepth 100000 in
set_option maxHeartbeats 400000 in
theorem ref_11_32 (x y a b : Nat) (w : World) (ha : a < 2 ^ 32) (hb : b < 2 ^ 32) (hxa : Hid (x % 2 ^ 32 = a)) (hyb : Hid (y % 2 ^ 32 = b))  :
    Calls Try.prog 12 #[.int .i64 11, .bool false, .int .u64 x, .int .u64 y] w fun e w' => e = .returned (.tuple #[.int .u64 (op 32 11 a b : Nat), .bool true]) ∧ w = w' := by
  go_enter Try.func12, Try.ntmps12
  go_wp2_with fail
  refine (cut_narrow rfl hxa.out _).mono ?_; rintro e w' ⟨rfl, rfl⟩
  go_wp2_with fail
  refine (cut_narrow rfl hyb.out _).mono ?_; rintro e w' ⟨rfl, rfl⟩
  go_wp2_with fail
  refine (cut_narrow (rfl) (mid_mod (o := 11) (by decide) ha hb) _).mono ?_; rintro e w' ⟨rfl, rfl⟩
  go_wp2_with fail
  go_ret2
  exact ⟨rfl, rfl⟩
end Go.Proofs.Ytdpnhpennceldaa
