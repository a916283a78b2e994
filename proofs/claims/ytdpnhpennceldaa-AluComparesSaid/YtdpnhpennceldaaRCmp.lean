/-
  THE WALK of the reference's Cmp.
-/
import Derived.Test.YtdpnhpennceldaaCmp
namespace Go.Proofs.Ytdpnhpennceldaa
open Go.RowKit M
set_option linter.unusedVariables false
set_option maxRecDepth 100000 in
set_option maxHeartbeats 1000000 in
theorem rcmp_1_wide (x y : Nat) (s t : Int) (w : World) (es : Hid (wrap64 (x : Int) = s)) (et : Hid (wrap64 (y : Int) = t)) :
    Calls Try.prog 20 #[.int .i64 1, .bool true, .int .u64 x, .int .u64 y] w fun e w' => e = .returned (.tuple #[.bool (cmpV 1 x y s t), .bool true]) ∧ w = w' := by
  go_enter Try.func20, Try.ntmps20
  go_wp2_with fail
  refine (cut_wide (r := x) rfl _).mono ?_; rintro e w' ⟨rfl, rfl⟩
  go_wp2_with fail
  refine (cut_wide (r := y) rfl _).mono ?_; rintro e w' ⟨rfl, rfl⟩
  have h1 := es.out
  have h2 := et.out
  go_wp2_with fail
  all_goals go_ret2
  all_goals (first | exact ⟨rfl, rfl⟩ | (simp [cmpV, *]; done) | (trace_state; sorry))
set_option maxRecDepth 100000 in
set_option maxHeartbeats 1000000 in
theorem rcmp_1_narrow (x y xl yl : Nat) (s2 t2 : Int) (w : World) (exl : Hid (x % 2 ^ 32 = xl)) (eyl : Hid (y % 2 ^ 32 = yl)) (hxl : xl < 4294967296) (hyl : yl < 4294967296) (es2 : Hid (wrap32 (xl : Int) = s2)) (et2 : Hid (wrap32 (yl : Int) = t2)) (hs1 : -2147483648 ≤ s2) (hs2 : s2 ≤ 2147483647) (ht1 : -2147483648 ≤ t2) (ht2 : t2 ≤ 2147483647) :
    Calls Try.prog 20 #[.int .i64 1, .bool false, .int .u64 x, .int .u64 y] w fun e w' => e = .returned (.tuple #[.bool (cmpV 1 xl yl s2 t2), .bool true]) ∧ w = w' := by
  go_enter Try.func20, Try.ntmps20
  go_wp2_with fail
  refine (cut_narrow rfl exl.out _).mono ?_; rintro e w' ⟨rfl, rfl⟩
  go_wp2_with fail
  refine (cut_narrow rfl eyl.out _).mono ?_; rintro e w' ⟨rfl, rfl⟩
  have h1 := es2.out
  have h2 := et2.out
  go_wp2_with fail
  all_goals go_ret2
  all_goals (first | exact ⟨rfl, rfl⟩ | (simp [cmpV, *]; done) | (trace_state; sorry))
set_option maxRecDepth 100000 in
set_option maxHeartbeats 1000000 in
theorem rcmp_2_wide (x y : Nat) (s t : Int) (w : World) (es : Hid (wrap64 (x : Int) = s)) (et : Hid (wrap64 (y : Int) = t)) :
    Calls Try.prog 20 #[.int .i64 2, .bool true, .int .u64 x, .int .u64 y] w fun e w' => e = .returned (.tuple #[.bool (cmpV 2 x y s t), .bool true]) ∧ w = w' := by
  go_enter Try.func20, Try.ntmps20
  go_wp2_with fail
  refine (cut_wide (r := x) rfl _).mono ?_; rintro e w' ⟨rfl, rfl⟩
  go_wp2_with fail
  refine (cut_wide (r := y) rfl _).mono ?_; rintro e w' ⟨rfl, rfl⟩
  have h1 := es.out
  have h2 := et.out
  go_wp2_with fail
  all_goals go_ret2
  all_goals (first | exact ⟨rfl, rfl⟩ | (simp [cmpV, *]; done) | (trace_state; sorry))
set_option maxRecDepth 100000 in
set_option maxHeartbeats 1000000 in
theorem rcmp_2_narrow (x y xl yl : Nat) (s2 t2 : Int) (w : World) (exl : Hid (x % 2 ^ 32 = xl)) (eyl : Hid (y % 2 ^ 32 = yl)) (hxl : xl < 4294967296) (hyl : yl < 4294967296) (es2 : Hid (wrap32 (xl : Int) = s2)) (et2 : Hid (wrap32 (yl : Int) = t2)) (hs1 : -2147483648 ≤ s2) (hs2 : s2 ≤ 2147483647) (ht1 : -2147483648 ≤ t2) (ht2 : t2 ≤ 2147483647) :
    Calls Try.prog 20 #[.int .i64 2, .bool false, .int .u64 x, .int .u64 y] w fun e w' => e = .returned (.tuple #[.bool (cmpV 2 xl yl s2 t2), .bool true]) ∧ w = w' := by
  go_enter Try.func20, Try.ntmps20
  go_wp2_with fail
  refine (cut_narrow rfl exl.out _).mono ?_; rintro e w' ⟨rfl, rfl⟩
  go_wp2_with fail
  refine (cut_narrow rfl eyl.out _).mono ?_; rintro e w' ⟨rfl, rfl⟩
  have h1 := es2.out
  have h2 := et2.out
  go_wp2_with fail
  all_goals go_ret2
  all_goals (first | exact ⟨rfl, rfl⟩ | (simp [cmpV, *]; done) | (trace_state; sorry))
set_option maxRecDepth 100000 in
set_option maxHeartbeats 1000000 in
theorem rcmp_3_wide (x y : Nat) (s t : Int) (w : World) (es : Hid (wrap64 (x : Int) = s)) (et : Hid (wrap64 (y : Int) = t)) :
    Calls Try.prog 20 #[.int .i64 3, .bool true, .int .u64 x, .int .u64 y] w fun e w' => e = .returned (.tuple #[.bool (cmpV 3 x y s t), .bool true]) ∧ w = w' := by
  go_enter Try.func20, Try.ntmps20
  go_wp2_with fail
  refine (cut_wide (r := x) rfl _).mono ?_; rintro e w' ⟨rfl, rfl⟩
  go_wp2_with fail
  refine (cut_wide (r := y) rfl _).mono ?_; rintro e w' ⟨rfl, rfl⟩
  have h1 := es.out
  have h2 := et.out
  go_wp2_with fail
  all_goals go_ret2
  all_goals (first | exact ⟨rfl, rfl⟩ | (simp [cmpV, *]; done) | (trace_state; sorry))
set_option maxRecDepth 100000 in
set_option maxHeartbeats 1000000 in
theorem rcmp_3_narrow (x y xl yl : Nat) (s2 t2 : Int) (w : World) (exl : Hid (x % 2 ^ 32 = xl)) (eyl : Hid (y % 2 ^ 32 = yl)) (hxl : xl < 4294967296) (hyl : yl < 4294967296) (es2 : Hid (wrap32 (xl : Int) = s2)) (et2 : Hid (wrap32 (yl : Int) = t2)) (hs1 : -2147483648 ≤ s2) (hs2 : s2 ≤ 2147483647) (ht1 : -2147483648 ≤ t2) (ht2 : t2 ≤ 2147483647) :
    Calls Try.prog 20 #[.int .i64 3, .bool false, .int .u64 x, .int .u64 y] w fun e w' => e = .returned (.tuple #[.bool (cmpV 3 xl yl s2 t2), .bool true]) ∧ w = w' := by
  go_enter Try.func20, Try.ntmps20
  go_wp2_with fail
  refine (cut_narrow rfl exl.out _).mono ?_; rintro e w' ⟨rfl, rfl⟩
  go_wp2_with fail
  refine (cut_narrow rfl eyl.out _).mono ?_; rintro e w' ⟨rfl, rfl⟩
  have h1 := es2.out
  have h2 := et2.out
  go_wp2_with fail
  all_goals go_ret2
  all_goals (first | exact ⟨rfl, rfl⟩ | (simp [cmpV, *]; done) | (trace_state; sorry))
set_option maxRecDepth 100000 in
set_option maxHeartbeats 1000000 in
theorem rcmp_4_wide (x y : Nat) (s t : Int) (w : World) (es : Hid (wrap64 (x : Int) = s)) (et : Hid (wrap64 (y : Int) = t)) :
    Calls Try.prog 20 #[.int .i64 4, .bool true, .int .u64 x, .int .u64 y] w fun e w' => e = .returned (.tuple #[.bool (cmpV 4 x y s t), .bool true]) ∧ w = w' := by
  go_enter Try.func20, Try.ntmps20
  go_wp2_with fail
  refine (cut_wide (r := x) rfl _).mono ?_; rintro e w' ⟨rfl, rfl⟩
  go_wp2_with fail
  refine (cut_wide (r := y) rfl _).mono ?_; rintro e w' ⟨rfl, rfl⟩
  have h1 := es.out
  have h2 := et.out
  go_wp2_with fail
  all_goals go_ret2
  all_goals (first | exact ⟨rfl, rfl⟩ | (simp [cmpV, *]; done) | (trace_state; sorry))
set_option maxRecDepth 100000 in
set_option maxHeartbeats 1000000 in
theorem rcmp_4_narrow (x y xl yl : Nat) (s2 t2 : Int) (w : World) (exl : Hid (x % 2 ^ 32 = xl)) (eyl : Hid (y % 2 ^ 32 = yl)) (hxl : xl < 4294967296) (hyl : yl < 4294967296) (es2 : Hid (wrap32 (xl : Int) = s2)) (et2 : Hid (wrap32 (yl : Int) = t2)) (hs1 : -2147483648 ≤ s2) (hs2 : s2 ≤ 2147483647) (ht1 : -2147483648 ≤ t2) (ht2 : t2 ≤ 2147483647) :
    Calls Try.prog 20 #[.int .i64 4, .bool false, .int .u64 x, .int .u64 y] w fun e w' => e = .returned (.tuple #[.bool (cmpV 4 xl yl s2 t2), .bool true]) ∧ w = w' := by
  go_enter Try.func20, Try.ntmps20
  go_wp2_with fail
  refine (cut_narrow rfl exl.out _).mono ?_; rintro e w' ⟨rfl, rfl⟩
  go_wp2_with fail
  refine (cut_narrow rfl eyl.out _).mono ?_; rintro e w' ⟨rfl, rfl⟩
  have h1 := es2.out
  have h2 := et2.out
  go_wp2_with fail
  all_goals go_ret2
  all_goals (first | exact ⟨rfl, rfl⟩ | (simp [cmpV, *]; done) | (trace_state; sorry))
set_option maxRecDepth 100000 in
set_option maxHeartbeats 1000000 in
theorem rcmp_5_wide (x y : Nat) (s t : Int) (w : World) (es : Hid (wrap64 (x : Int) = s)) (et : Hid (wrap64 (y : Int) = t)) :
    Calls Try.prog 20 #[.int .i64 5, .bool true, .int .u64 x, .int .u64 y] w fun e w' => e = .returned (.tuple #[.bool (cmpV 5 x y s t), .bool true]) ∧ w = w' := by
  go_enter Try.func20, Try.ntmps20
  go_wp2_with fail
  refine (cut_wide (r := x) rfl _).mono ?_; rintro e w' ⟨rfl, rfl⟩
  go_wp2_with fail
  refine (cut_wide (r := y) rfl _).mono ?_; rintro e w' ⟨rfl, rfl⟩
  have h1 := es.out
  have h2 := et.out
  go_wp2_with fail
  all_goals go_ret2
  all_goals (first | exact ⟨rfl, rfl⟩ | (simp [cmpV, *]; done) | (trace_state; sorry))
set_option maxRecDepth 100000 in
set_option maxHeartbeats 1000000 in
theorem rcmp_5_narrow (x y xl yl : Nat) (s2 t2 : Int) (w : World) (exl : Hid (x % 2 ^ 32 = xl)) (eyl : Hid (y % 2 ^ 32 = yl)) (hxl : xl < 4294967296) (hyl : yl < 4294967296) (es2 : Hid (wrap32 (xl : Int) = s2)) (et2 : Hid (wrap32 (yl : Int) = t2)) (hs1 : -2147483648 ≤ s2) (hs2 : s2 ≤ 2147483647) (ht1 : -2147483648 ≤ t2) (ht2 : t2 ≤ 2147483647) :
    Calls Try.prog 20 #[.int .i64 5, .bool false, .int .u64 x, .int .u64 y] w fun e w' => e = .returned (.tuple #[.bool (cmpV 5 xl yl s2 t2), .bool true]) ∧ w = w' := by
  go_enter Try.func20, Try.ntmps20
  go_wp2_with fail
  refine (cut_narrow rfl exl.out _).mono ?_; rintro e w' ⟨rfl, rfl⟩
  go_wp2_with fail
  refine (cut_narrow rfl eyl.out _).mono ?_; rintro e w' ⟨rfl, rfl⟩
  have h1 := es2.out
  have h2 := et2.out
  go_wp2_with fail
  all_goals go_ret2
  all_goals (first | exact ⟨rfl, rfl⟩ | (simp [cmpV, *]; done) | (trace_state; sorry))
set_option maxRecDepth 100000 in
set_option maxHeartbeats 1000000 in
theorem rcmp_6_wide (x y : Nat) (s t : Int) (w : World) (es : Hid (wrap64 (x : Int) = s)) (et : Hid (wrap64 (y : Int) = t)) :
    Calls Try.prog 20 #[.int .i64 6, .bool true, .int .u64 x, .int .u64 y] w fun e w' => e = .returned (.tuple #[.bool (cmpV 6 x y s t), .bool true]) ∧ w = w' := by
  go_enter Try.func20, Try.ntmps20
  go_wp2_with fail
  refine (cut_wide (r := x) rfl _).mono ?_; rintro e w' ⟨rfl, rfl⟩
  go_wp2_with fail
  refine (cut_wide (r := y) rfl _).mono ?_; rintro e w' ⟨rfl, rfl⟩
  have h1 := es.out
  have h2 := et.out
  go_wp2_with fail
  all_goals go_ret2
  all_goals (first | exact ⟨rfl, rfl⟩ | (simp [cmpV, *]; done) | (trace_state; sorry))
set_option maxRecDepth 100000 in
set_option maxHeartbeats 1000000 in
theorem rcmp_6_narrow (x y xl yl : Nat) (s2 t2 : Int) (w : World) (exl : Hid (x % 2 ^ 32 = xl)) (eyl : Hid (y % 2 ^ 32 = yl)) (hxl : xl < 4294967296) (hyl : yl < 4294967296) (es2 : Hid (wrap32 (xl : Int) = s2)) (et2 : Hid (wrap32 (yl : Int) = t2)) (hs1 : -2147483648 ≤ s2) (hs2 : s2 ≤ 2147483647) (ht1 : -2147483648 ≤ t2) (ht2 : t2 ≤ 2147483647) :
    Calls Try.prog 20 #[.int .i64 6, .bool false, .int .u64 x, .int .u64 y] w fun e w' => e = .returned (.tuple #[.bool (cmpV 6 xl yl s2 t2), .bool true]) ∧ w = w' := by
  go_enter Try.func20, Try.ntmps20
  go_wp2_with fail
  refine (cut_narrow rfl exl.out _).mono ?_; rintro e w' ⟨rfl, rfl⟩
  go_wp2_with fail
  refine (cut_narrow rfl eyl.out _).mono ?_; rintro e w' ⟨rfl, rfl⟩
  have h1 := es2.out
  have h2 := et2.out
  go_wp2_with fail
  all_goals go_ret2
  all_goals (first | exact ⟨rfl, rfl⟩ | (simp [cmpV, *]; done) | (trace_state; sorry))
set_option maxRecDepth 100000 in
set_option maxHeartbeats 1000000 in
theorem rcmp_7_wide (x y : Nat) (s t : Int) (w : World) (es : Hid (wrap64 (x : Int) = s)) (et : Hid (wrap64 (y : Int) = t)) :
    Calls Try.prog 20 #[.int .i64 7, .bool true, .int .u64 x, .int .u64 y] w fun e w' => e = .returned (.tuple #[.bool (cmpV 7 x y s t), .bool true]) ∧ w = w' := by
  go_enter Try.func20, Try.ntmps20
  go_wp2_with fail
  refine (cut_wide (r := x) rfl _).mono ?_; rintro e w' ⟨rfl, rfl⟩
  go_wp2_with fail
  refine (cut_wide (r := y) rfl _).mono ?_; rintro e w' ⟨rfl, rfl⟩
  have h1 := es.out
  have h2 := et.out
  go_wp2_with fail
  all_goals go_ret2
  all_goals (first | exact ⟨rfl, rfl⟩ | (simp [cmpV, *]; done) | (trace_state; sorry))
set_option maxRecDepth 100000 in
set_option maxHeartbeats 1000000 in
theorem rcmp_7_narrow (x y xl yl : Nat) (s2 t2 : Int) (w : World) (exl : Hid (x % 2 ^ 32 = xl)) (eyl : Hid (y % 2 ^ 32 = yl)) (hxl : xl < 4294967296) (hyl : yl < 4294967296) (es2 : Hid (wrap32 (xl : Int) = s2)) (et2 : Hid (wrap32 (yl : Int) = t2)) (hs1 : -2147483648 ≤ s2) (hs2 : s2 ≤ 2147483647) (ht1 : -2147483648 ≤ t2) (ht2 : t2 ≤ 2147483647) :
    Calls Try.prog 20 #[.int .i64 7, .bool false, .int .u64 x, .int .u64 y] w fun e w' => e = .returned (.tuple #[.bool (cmpV 7 xl yl s2 t2), .bool true]) ∧ w = w' := by
  go_enter Try.func20, Try.ntmps20
  go_wp2_with fail
  refine (cut_narrow rfl exl.out _).mono ?_; rintro e w' ⟨rfl, rfl⟩
  go_wp2_with fail
  refine (cut_narrow rfl eyl.out _).mono ?_; rintro e w' ⟨rfl, rfl⟩
  have h1 := es2.out
  have h2 := et2.out
  go_wp2_with fail
  all_goals go_ret2
  all_goals (first | exact ⟨rfl, rfl⟩ | (simp [cmpV, *]; done) | (trace_state; sorry))
set_option maxRecDepth 100000 in
set_option maxHeartbeats 1000000 in
theorem rcmp_10_wide (x y : Nat) (s t : Int) (w : World) (es : Hid (wrap64 (x : Int) = s)) (et : Hid (wrap64 (y : Int) = t)) :
    Calls Try.prog 20 #[.int .i64 10, .bool true, .int .u64 x, .int .u64 y] w fun e w' => e = .returned (.tuple #[.bool (cmpV 10 x y s t), .bool true]) ∧ w = w' := by
  go_enter Try.func20, Try.ntmps20
  go_wp2_with fail
  refine (cut_wide (r := x) rfl _).mono ?_; rintro e w' ⟨rfl, rfl⟩
  go_wp2_with fail
  refine (cut_wide (r := y) rfl _).mono ?_; rintro e w' ⟨rfl, rfl⟩
  have h1 := es.out
  have h2 := et.out
  go_wp2_with fail
  all_goals go_ret2
  all_goals (first | exact ⟨rfl, rfl⟩ | (simp [cmpV, *]; done) | (trace_state; sorry))
set_option maxRecDepth 100000 in
set_option maxHeartbeats 1000000 in
theorem rcmp_10_narrow (x y xl yl : Nat) (s2 t2 : Int) (w : World) (exl : Hid (x % 2 ^ 32 = xl)) (eyl : Hid (y % 2 ^ 32 = yl)) (hxl : xl < 4294967296) (hyl : yl < 4294967296) (es2 : Hid (wrap32 (xl : Int) = s2)) (et2 : Hid (wrap32 (yl : Int) = t2)) (hs1 : -2147483648 ≤ s2) (hs2 : s2 ≤ 2147483647) (ht1 : -2147483648 ≤ t2) (ht2 : t2 ≤ 2147483647) :
    Calls Try.prog 20 #[.int .i64 10, .bool false, .int .u64 x, .int .u64 y] w fun e w' => e = .returned (.tuple #[.bool (cmpV 10 xl yl s2 t2), .bool true]) ∧ w = w' := by
  go_enter Try.func20, Try.ntmps20
  go_wp2_with fail
  refine (cut_narrow rfl exl.out _).mono ?_; rintro e w' ⟨rfl, rfl⟩
  go_wp2_with fail
  refine (cut_narrow rfl eyl.out _).mono ?_; rintro e w' ⟨rfl, rfl⟩
  have h1 := es2.out
  have h2 := et2.out
  go_wp2_with fail
  all_goals go_ret2
  all_goals (first | exact ⟨rfl, rfl⟩ | (simp [cmpV, *]; done) | (trace_state; sorry))
set_option maxRecDepth 100000 in
set_option maxHeartbeats 1000000 in
theorem rcmp_11_wide (x y : Nat) (s t : Int) (w : World) (es : Hid (wrap64 (x : Int) = s)) (et : Hid (wrap64 (y : Int) = t)) :
    Calls Try.prog 20 #[.int .i64 11, .bool true, .int .u64 x, .int .u64 y] w fun e w' => e = .returned (.tuple #[.bool (cmpV 11 x y s t), .bool true]) ∧ w = w' := by
  go_enter Try.func20, Try.ntmps20
  go_wp2_with fail
  refine (cut_wide (r := x) rfl _).mono ?_; rintro e w' ⟨rfl, rfl⟩
  go_wp2_with fail
  refine (cut_wide (r := y) rfl _).mono ?_; rintro e w' ⟨rfl, rfl⟩
  have h1 := es.out
  have h2 := et.out
  go_wp2_with fail
  all_goals go_ret2
  all_goals (first | exact ⟨rfl, rfl⟩ | (simp [cmpV, *]; done) | (trace_state; sorry))
set_option maxRecDepth 100000 in
set_option maxHeartbeats 1000000 in
theorem rcmp_11_narrow (x y xl yl : Nat) (s2 t2 : Int) (w : World) (exl : Hid (x % 2 ^ 32 = xl)) (eyl : Hid (y % 2 ^ 32 = yl)) (hxl : xl < 4294967296) (hyl : yl < 4294967296) (es2 : Hid (wrap32 (xl : Int) = s2)) (et2 : Hid (wrap32 (yl : Int) = t2)) (hs1 : -2147483648 ≤ s2) (hs2 : s2 ≤ 2147483647) (ht1 : -2147483648 ≤ t2) (ht2 : t2 ≤ 2147483647) :
    Calls Try.prog 20 #[.int .i64 11, .bool false, .int .u64 x, .int .u64 y] w fun e w' => e = .returned (.tuple #[.bool (cmpV 11 xl yl s2 t2), .bool true]) ∧ w = w' := by
  go_enter Try.func20, Try.ntmps20
  go_wp2_with fail
  refine (cut_narrow rfl exl.out _).mono ?_; rintro e w' ⟨rfl, rfl⟩
  go_wp2_with fail
  refine (cut_narrow rfl eyl.out _).mono ?_; rintro e w' ⟨rfl, rfl⟩
  have h1 := es2.out
  have h2 := et2.out
  go_wp2_with fail
  all_goals go_ret2
  all_goals (first | exact ⟨rfl, rfl⟩ | (simp [cmpV, *]; done) | (trace_state; sorry))
set_option maxRecDepth 100000 in
set_option maxHeartbeats 1000000 in
theorem rcmp_12_wide (x y : Nat) (s t : Int) (w : World) (es : Hid (wrap64 (x : Int) = s)) (et : Hid (wrap64 (y : Int) = t)) :
    Calls Try.prog 20 #[.int .i64 12, .bool true, .int .u64 x, .int .u64 y] w fun e w' => e = .returned (.tuple #[.bool (cmpV 12 x y s t), .bool true]) ∧ w = w' := by
  go_enter Try.func20, Try.ntmps20
  go_wp2_with fail
  refine (cut_wide (r := x) rfl _).mono ?_; rintro e w' ⟨rfl, rfl⟩
  go_wp2_with fail
  refine (cut_wide (r := y) rfl _).mono ?_; rintro e w' ⟨rfl, rfl⟩
  have h1 := es.out
  have h2 := et.out
  go_wp2_with fail
  all_goals go_ret2
  all_goals (first | exact ⟨rfl, rfl⟩ | (simp [cmpV, *]; done) | (trace_state; sorry))
set_option maxRecDepth 100000 in
set_option maxHeartbeats 1000000 in
theorem rcmp_12_narrow (x y xl yl : Nat) (s2 t2 : Int) (w : World) (exl : Hid (x % 2 ^ 32 = xl)) (eyl : Hid (y % 2 ^ 32 = yl)) (hxl : xl < 4294967296) (hyl : yl < 4294967296) (es2 : Hid (wrap32 (xl : Int) = s2)) (et2 : Hid (wrap32 (yl : Int) = t2)) (hs1 : -2147483648 ≤ s2) (hs2 : s2 ≤ 2147483647) (ht1 : -2147483648 ≤ t2) (ht2 : t2 ≤ 2147483647) :
    Calls Try.prog 20 #[.int .i64 12, .bool false, .int .u64 x, .int .u64 y] w fun e w' => e = .returned (.tuple #[.bool (cmpV 12 xl yl s2 t2), .bool true]) ∧ w = w' := by
  go_enter Try.func20, Try.ntmps20
  go_wp2_with fail
  refine (cut_narrow rfl exl.out _).mono ?_; rintro e w' ⟨rfl, rfl⟩
  go_wp2_with fail
  refine (cut_narrow rfl eyl.out _).mono ?_; rintro e w' ⟨rfl, rfl⟩
  have h1 := es2.out
  have h2 := et2.out
  go_wp2_with fail
  all_goals go_ret2
  all_goals (first | exact ⟨rfl, rfl⟩ | (simp [cmpV, *]; done) | (trace_state; sorry))
set_option maxRecDepth 100000 in
set_option maxHeartbeats 1000000 in
theorem rcmp_13_wide (x y : Nat) (s t : Int) (w : World) (es : Hid (wrap64 (x : Int) = s)) (et : Hid (wrap64 (y : Int) = t)) :
    Calls Try.prog 20 #[.int .i64 13, .bool true, .int .u64 x, .int .u64 y] w fun e w' => e = .returned (.tuple #[.bool (cmpV 13 x y s t), .bool true]) ∧ w = w' := by
  go_enter Try.func20, Try.ntmps20
  go_wp2_with fail
  refine (cut_wide (r := x) rfl _).mono ?_; rintro e w' ⟨rfl, rfl⟩
  go_wp2_with fail
  refine (cut_wide (r := y) rfl _).mono ?_; rintro e w' ⟨rfl, rfl⟩
  have h1 := es.out
  have h2 := et.out
  go_wp2_with fail
  all_goals go_ret2
  all_goals (first | exact ⟨rfl, rfl⟩ | (simp [cmpV, *]; done) | (trace_state; sorry))
set_option maxRecDepth 100000 in
set_option maxHeartbeats 1000000 in
theorem rcmp_13_narrow (x y xl yl : Nat) (s2 t2 : Int) (w : World) (exl : Hid (x % 2 ^ 32 = xl)) (eyl : Hid (y % 2 ^ 32 = yl)) (hxl : xl < 4294967296) (hyl : yl < 4294967296) (es2 : Hid (wrap32 (xl : Int) = s2)) (et2 : Hid (wrap32 (yl : Int) = t2)) (hs1 : -2147483648 ≤ s2) (hs2 : s2 ≤ 2147483647) (ht1 : -2147483648 ≤ t2) (ht2 : t2 ≤ 2147483647) :
    Calls Try.prog 20 #[.int .i64 13, .bool false, .int .u64 x, .int .u64 y] w fun e w' => e = .returned (.tuple #[.bool (cmpV 13 xl yl s2 t2), .bool true]) ∧ w = w' := by
  go_enter Try.func20, Try.ntmps20
  go_wp2_with fail
  refine (cut_narrow rfl exl.out _).mono ?_; rintro e w' ⟨rfl, rfl⟩
  go_wp2_with fail
  refine (cut_narrow rfl eyl.out _).mono ?_; rintro e w' ⟨rfl, rfl⟩
  have h1 := es2.out
  have h2 := et2.out
  go_wp2_with fail
  all_goals go_ret2
  all_goals (first | exact ⟨rfl, rfl⟩ | (simp [cmpV, *]; done) | (trace_state; sorry))
end Go.Proofs.Ytdpnhpennceldaa
