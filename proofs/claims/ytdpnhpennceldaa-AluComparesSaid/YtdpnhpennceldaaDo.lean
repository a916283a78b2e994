/-
  THE WALK of alu.Do: each operation at two numbers of 64 bits, and at the lowest 32 bits of two; no operation elsewhere.
-/
import Derived.Test.YtdpnhpennceldaaWalks
import Derived.Laws.EntriesVeiled
import Derived.Lib.Hide
import Derived.Outline
namespace Go.Proofs.Ytdpnhpennceldaa
open Go.RowKit M
set_option linter.unusedVariables false
theorem u64_low (a : Nat) (ha : a < 2 ^ 64) : bits .and .u64 (a : Int) 4294967295 = ((a % 2 ^ 32 : Nat) : Int) := by
  have h := u64_and_nat a 4294967295 (by omega) (by omega)
  rw [nat_mask32] at h
  exact h
set_option maxHeartbeats 400000 in
theorem low_any (a : Nat) (w : World) (ha : a < 2 ^ 64) :
    Calls Try.prog 22 #[.int .u64 a] w fun e w' => e = .returned (.int .u64 (a % 2 ^ 32 : Nat)) ∧ w = w' := by
  go_enter Try.func22, Try.ntmps22
  go_wp2
  go_ret
  exact ⟨congrArg (fun z => Ending.returned (.int .u64 z)) (u64_low a ha), rfl⟩
set_option maxRecDepth 100000 in
set_option maxHeartbeats 400000 in
theorem tabled_any (w : World) :
    Calls Try.prog 21 #[] w fun e w' => e = .returned (.agg #[.func (.func 28) #[] #[], .func (.func 29) #[] #[], .func (.func 30) #[] #[], .func (.func 31) #[] #[], .func (.func 32) #[] #[], .func (.func 33) #[] #[], .func (.func 34) #[] #[], .func (.func 35) #[] #[], .func (.func 36) #[] #[], .func (.func 37) #[] #[], .func (.func 38) #[] #[], .func (.func 39) #[] #[], .func (.func 40) #[] #[]]) ∧ Below w.heap.size w w' := by
  go_enter Try.func21, Try.ntmps21
  go_wp2
  refine bodyPost_ret (v := .agg #[.func (.func 28) #[] #[], .func (.func 29) #[] #[], .func (.func 30) #[] #[], .func (.func 31) #[] #[], .func (.func 32) #[] #[], .func (.func 33) #[] #[], .func (.func 34) #[] #[], .func (.func 35) #[] #[], .func (.func 36) #[] #[], .func (.func 37) #[] #[], .func (.func 38) #[] #[], .func (.func 39) #[] #[], .func (.func 40) #[] #[]]) (by simp [results, Try.results21, go_sem]) rfl ⟨rfl, ?_⟩
  exact (Below.refl _ _).alloc (Nat.le_refl _) _
theorem tab_field (w : World) : (Instr.field 41 (.agg #[.func (.func 28) #[] #[], .func (.func 29) #[] #[], .func (.func 30) #[] #[], .func (.func 31) #[] #[], .func (.func 32) #[] #[], .func (.func 33) #[] #[], .func (.func 34) #[] #[], .func (.func 35) #[] #[], .func (.func 36) #[] #[], .func (.func 37) #[] #[], .func (.func 38) #[] #[], .func (.func 39) #[] #[], .func (.func 40) #[] #[]]) 0).run Try.prog w = .ok (.agg #[.func (.func 28) #[] #[], .func (.func 29) #[] #[], .func (.func 30) #[] #[], .func (.func 31) #[] #[], .func (.func 32) #[] #[], .func (.func 33) #[] #[], .func (.func 34) #[] #[], .func (.func 35) #[] #[], .func (.func 36) #[] #[], .func (.func 37) #[] #[], .func (.func 38) #[] #[], .func (.func 39) #[] #[], .func (.func 40) #[] #[]]) w := by kernel_rfl
set_option maxHeartbeats 400000 in
theorem do_none (o : Int) (b : Bool) (x y : Int) (w : World) (ho : o < 0 ∨ 12 < o) :
    Calls Try.prog 11 #[.int .i64 o, .bool b, .int .u64 x, .int .u64 y] w fun e w' => e = .returned (.tuple #[.int .u64 0, .bool false]) ∧ Below w.heap.size w w' := by
  rcases ho with ho | ho
  · go_enter Try.func11, Try.ntmps11
    go_wp2
    go_ret2
    exact ⟨rfl, Below.refl _ _⟩
  · have h0 : ¬ o < 0 := by omega
    go_enter Try.func11, Try.ntmps11
    go_wp2
    go_ret2
    exact ⟨rfl, Below.refl _ _⟩

theorem tab_0 (w : World) : (Instr.index 39 (.agg #[.func (.func 28) #[] #[], .func (.func 29) #[] #[], .func (.func 30) #[] #[], .func (.func 31) #[] #[], .func (.func 32) #[] #[], .func (.func 33) #[] #[], .func (.func 34) #[] #[], .func (.func 35) #[] #[], .func (.func 36) #[] #[], .func (.func 37) #[] #[], .func (.func 38) #[] #[], .func (.func 39) #[] #[], .func (.func 40) #[] #[]]) (.int .i64 0)).run Try.prog w = .ok (.func (.func 28) #[] #[]) w := by kernel_rfl
set_option maxRecDepth 100000 in
set_option maxHeartbeats 400000 in
theorem do_0_wide (x y : Nat) (w : World) (hx : x < 2 ^ 64) (hy : y < 2 ^ 64) :
    Calls Try.prog 11 #[.int .i64 0, .bool true, .int .u64 x, .int .u64 y] w fun e w' => e = .returned (.tuple #[.int .u64 (doV 0 true x y : Nat), .bool true]) ∧ Below w.heap.size w w' := by
  have hfi := tab_field
  have hix := tab_0
  go_enter Try.func11, Try.ntmps11
  go_wp2_with (first | (go_at_call 21; refine (tabled_any _).mono ?_; rintro e w1 ⟨rfl, hb⟩) | (go_at_call 28; refine (f0_64 x y _ hx hy).mono ?_; rintro e w' ⟨rfl, rfl⟩))
  go_ret2
  exact ⟨rfl, hb⟩
set_option maxRecDepth 100000 in
set_option maxHeartbeats 400000 in
theorem do_0_narrow (x y : Nat) (w : World) (hx : x < 2 ^ 64) (hy : y < 2 ^ 64) :
    Calls Try.prog 11 #[.int .i64 0, .bool false, .int .u64 x, .int .u64 y] w fun e w' => e = .returned (.tuple #[.int .u64 (doV 0 false x y : Nat), .bool true]) ∧ Below w.heap.size w w' := by
  have hlx : x % 2 ^ 32 < 2 ^ 32 := Nat.mod_lt _ (by decide)
  have hly : y % 2 ^ 32 < 2 ^ 32 := Nat.mod_lt _ (by decide)
  have hm := mid_lt (o := 0) hlx hly
  have HE := Lib.hid (mid_mod (o := 0) (by decide) hlx hly)
  have hfi := tab_field
  have hix := tab_0
  go_enter Try.func11, Try.ntmps11
  go_wp2_with fail
  refine (tabled_any _).mono ?_; rintro e w1 ⟨rfl, hb⟩
  go_wp2_with fail
  refine (low_any x _ hx).mono ?_; rintro e w' ⟨rfl, rfl⟩
  go_wp2_with fail
  refine (low_any y _ hy).mono ?_; rintro e w' ⟨rfl, rfl⟩
  go_wp2_with fail
  refine (f0_32 _ _ _ hlx hly).mono ?_; rintro e w' ⟨rfl, rfl⟩
  go_wp2_with fail
  refine (low_any _ _ hm).mono ?_; rintro e w' ⟨rfl, rfl⟩
  go_wp2_with fail
  go_ret2
  exact ⟨congrArg (fun z : Nat => Ending.returned (.tuple #[.int .u64 (z : Int), .bool true])) HE.out, hb⟩

theorem tab_1 (w : World) : (Instr.index 39 (.agg #[.func (.func 28) #[] #[], .func (.func 29) #[] #[], .func (.func 30) #[] #[], .func (.func 31) #[] #[], .func (.func 32) #[] #[], .func (.func 33) #[] #[], .func (.func 34) #[] #[], .func (.func 35) #[] #[], .func (.func 36) #[] #[], .func (.func 37) #[] #[], .func (.func 38) #[] #[], .func (.func 39) #[] #[], .func (.func 40) #[] #[]]) (.int .i64 1)).run Try.prog w = .ok (.func (.func 29) #[] #[]) w := by kernel_rfl
set_option maxRecDepth 100000 in
set_option maxHeartbeats 400000 in
theorem do_1_wide (x y : Nat) (w : World) (hx : x < 2 ^ 64) (hy : y < 2 ^ 64) :
    Calls Try.prog 11 #[.int .i64 1, .bool true, .int .u64 x, .int .u64 y] w fun e w' => e = .returned (.tuple #[.int .u64 (doV 1 true x y : Nat), .bool true]) ∧ Below w.heap.size w w' := by
  have hfi := tab_field
  have hix := tab_1
  go_enter Try.func11, Try.ntmps11
  go_wp2_with (first | (go_at_call 21; refine (tabled_any _).mono ?_; rintro e w1 ⟨rfl, hb⟩) | (go_at_call 29; refine (f1_64 x y _ hx hy).mono ?_; rintro e w' ⟨rfl, rfl⟩))
  go_ret2
  exact ⟨rfl, hb⟩
set_option maxRecDepth 100000 in
set_option maxHeartbeats 400000 in
theorem do_1_narrow (x y : Nat) (w : World) (hx : x < 2 ^ 64) (hy : y < 2 ^ 64) :
    Calls Try.prog 11 #[.int .i64 1, .bool false, .int .u64 x, .int .u64 y] w fun e w' => e = .returned (.tuple #[.int .u64 (doV 1 false x y : Nat), .bool true]) ∧ Below w.heap.size w w' := by
  have hlx : x % 2 ^ 32 < 2 ^ 32 := Nat.mod_lt _ (by decide)
  have hly : y % 2 ^ 32 < 2 ^ 32 := Nat.mod_lt _ (by decide)
  have hm := mid_lt (o := 1) hlx hly
  have HE := Lib.hid (mid_mod (o := 1) (by decide) hlx hly)
  have hfi := tab_field
  have hix := tab_1
  go_enter Try.func11, Try.ntmps11
  go_wp2_with fail
  refine (tabled_any _).mono ?_; rintro e w1 ⟨rfl, hb⟩
  go_wp2_with fail
  refine (low_any x _ hx).mono ?_; rintro e w' ⟨rfl, rfl⟩
  go_wp2_with fail
  refine (low_any y _ hy).mono ?_; rintro e w' ⟨rfl, rfl⟩
  go_wp2_with fail
  refine (f1_32 _ _ _ hlx hly).mono ?_; rintro e w' ⟨rfl, rfl⟩
  go_wp2_with fail
  refine (low_any _ _ hm).mono ?_; rintro e w' ⟨rfl, rfl⟩
  go_wp2_with fail
  go_ret2
  exact ⟨congrArg (fun z : Nat => Ending.returned (.tuple #[.int .u64 (z : Int), .bool true])) HE.out, hb⟩

theorem tab_2 (w : World) : (Instr.index 39 (.agg #[.func (.func 28) #[] #[], .func (.func 29) #[] #[], .func (.func 30) #[] #[], .func (.func 31) #[] #[], .func (.func 32) #[] #[], .func (.func 33) #[] #[], .func (.func 34) #[] #[], .func (.func 35) #[] #[], .func (.func 36) #[] #[], .func (.func 37) #[] #[], .func (.func 38) #[] #[], .func (.func 39) #[] #[], .func (.func 40) #[] #[]]) (.int .i64 2)).run Try.prog w = .ok (.func (.func 30) #[] #[]) w := by kernel_rfl
set_option maxRecDepth 100000 in
set_option maxHeartbeats 400000 in
theorem do_2_wide (x y : Nat) (w : World) (hx : x < 2 ^ 64) (hy : y < 2 ^ 64) :
    Calls Try.prog 11 #[.int .i64 2, .bool true, .int .u64 x, .int .u64 y] w fun e w' => e = .returned (.tuple #[.int .u64 (doV 2 true x y : Nat), .bool true]) ∧ Below w.heap.size w w' := by
  have hfi := tab_field
  have hix := tab_2
  go_enter Try.func11, Try.ntmps11
  go_wp2_with (first | (go_at_call 21; refine (tabled_any _).mono ?_; rintro e w1 ⟨rfl, hb⟩) | (go_at_call 30; refine (f2_64 x y _ hx hy).mono ?_; rintro e w' ⟨rfl, rfl⟩))
  go_ret2
  exact ⟨rfl, hb⟩
set_option maxRecDepth 100000 in
set_option maxHeartbeats 400000 in
theorem do_2_narrow (x y : Nat) (w : World) (hx : x < 2 ^ 64) (hy : y < 2 ^ 64) :
    Calls Try.prog 11 #[.int .i64 2, .bool false, .int .u64 x, .int .u64 y] w fun e w' => e = .returned (.tuple #[.int .u64 (doV 2 false x y : Nat), .bool true]) ∧ Below w.heap.size w w' := by
  have hlx : x % 2 ^ 32 < 2 ^ 32 := Nat.mod_lt _ (by decide)
  have hly : y % 2 ^ 32 < 2 ^ 32 := Nat.mod_lt _ (by decide)
  have hm := mid_lt (o := 2) hlx hly
  have HE := Lib.hid (mid_mod (o := 2) (by decide) hlx hly)
  have hfi := tab_field
  have hix := tab_2
  go_enter Try.func11, Try.ntmps11
  go_wp2_with fail
  refine (tabled_any _).mono ?_; rintro e w1 ⟨rfl, hb⟩
  go_wp2_with fail
  refine (low_any x _ hx).mono ?_; rintro e w' ⟨rfl, rfl⟩
  go_wp2_with fail
  refine (low_any y _ hy).mono ?_; rintro e w' ⟨rfl, rfl⟩
  go_wp2_with fail
  refine (f2_32 _ _ _ hlx hly).mono ?_; rintro e w' ⟨rfl, rfl⟩
  go_wp2_with fail
  refine (low_any _ _ hm).mono ?_; rintro e w' ⟨rfl, rfl⟩
  go_wp2_with fail
  go_ret2
  exact ⟨congrArg (fun z : Nat => Ending.returned (.tuple #[.int .u64 (z : Int), .bool true])) HE.out, hb⟩

theorem tab_3 (w : World) : (Instr.index 39 (.agg #[.func (.func 28) #[] #[], .func (.func 29) #[] #[], .func (.func 30) #[] #[], .func (.func 31) #[] #[], .func (.func 32) #[] #[], .func (.func 33) #[] #[], .func (.func 34) #[] #[], .func (.func 35) #[] #[], .func (.func 36) #[] #[], .func (.func 37) #[] #[], .func (.func 38) #[] #[], .func (.func 39) #[] #[], .func (.func 40) #[] #[]]) (.int .i64 3)).run Try.prog w = .ok (.func (.func 31) #[] #[]) w := by kernel_rfl
set_option maxRecDepth 100000 in
set_option maxHeartbeats 400000 in
theorem do_3_wide (x y : Nat) (w : World) (hx : x < 2 ^ 64) (hy : y < 2 ^ 64) :
    Calls Try.prog 11 #[.int .i64 3, .bool true, .int .u64 x, .int .u64 y] w fun e w' => e = .returned (.tuple #[.int .u64 (doV 3 true x y : Nat), .bool true]) ∧ Below w.heap.size w w' := by
  have hfi := tab_field
  have hix := tab_3
  go_enter Try.func11, Try.ntmps11
  go_wp2_with (first | (go_at_call 21; refine (tabled_any _).mono ?_; rintro e w1 ⟨rfl, hb⟩) | (go_at_call 31; refine (f3_64 x y _ hx hy).mono ?_; rintro e w' ⟨rfl, rfl⟩))
  go_ret2
  exact ⟨rfl, hb⟩
set_option maxRecDepth 100000 in
set_option maxHeartbeats 400000 in
theorem do_3_narrow (x y : Nat) (w : World) (hx : x < 2 ^ 64) (hy : y < 2 ^ 64) :
    Calls Try.prog 11 #[.int .i64 3, .bool false, .int .u64 x, .int .u64 y] w fun e w' => e = .returned (.tuple #[.int .u64 (doV 3 false x y : Nat), .bool true]) ∧ Below w.heap.size w w' := by
  have hlx : x % 2 ^ 32 < 2 ^ 32 := Nat.mod_lt _ (by decide)
  have hly : y % 2 ^ 32 < 2 ^ 32 := Nat.mod_lt _ (by decide)
  have hm := mid_lt (o := 3) hlx hly
  have HE := Lib.hid (mid_mod (o := 3) (by decide) hlx hly)
  have hfi := tab_field
  have hix := tab_3
  go_enter Try.func11, Try.ntmps11
  go_wp2_with fail
  refine (tabled_any _).mono ?_; rintro e w1 ⟨rfl, hb⟩
  go_wp2_with fail
  refine (low_any x _ hx).mono ?_; rintro e w' ⟨rfl, rfl⟩
  go_wp2_with fail
  refine (low_any y _ hy).mono ?_; rintro e w' ⟨rfl, rfl⟩
  go_wp2_with fail
  refine (f3_32 _ _ _ hlx hly).mono ?_; rintro e w' ⟨rfl, rfl⟩
  go_wp2_with fail
  refine (low_any _ _ hm).mono ?_; rintro e w' ⟨rfl, rfl⟩
  go_wp2_with fail
  go_ret2
  exact ⟨congrArg (fun z : Nat => Ending.returned (.tuple #[.int .u64 (z : Int), .bool true])) HE.out, hb⟩

theorem tab_4 (w : World) : (Instr.index 39 (.agg #[.func (.func 28) #[] #[], .func (.func 29) #[] #[], .func (.func 30) #[] #[], .func (.func 31) #[] #[], .func (.func 32) #[] #[], .func (.func 33) #[] #[], .func (.func 34) #[] #[], .func (.func 35) #[] #[], .func (.func 36) #[] #[], .func (.func 37) #[] #[], .func (.func 38) #[] #[], .func (.func 39) #[] #[], .func (.func 40) #[] #[]]) (.int .i64 4)).run Try.prog w = .ok (.func (.func 32) #[] #[]) w := by kernel_rfl
set_option maxRecDepth 100000 in
set_option maxHeartbeats 400000 in
theorem do_4_wide (x y : Nat) (w : World) (hx : x < 2 ^ 64) (hy : y < 2 ^ 64) :
    Calls Try.prog 11 #[.int .i64 4, .bool true, .int .u64 x, .int .u64 y] w fun e w' => e = .returned (.tuple #[.int .u64 (doV 4 true x y : Nat), .bool true]) ∧ Below w.heap.size w w' := by
  have hfi := tab_field
  have hix := tab_4
  go_enter Try.func11, Try.ntmps11
  go_wp2_with (first | (go_at_call 21; refine (tabled_any _).mono ?_; rintro e w1 ⟨rfl, hb⟩) | (go_at_call 32; refine (f4_64 x y _ hx hy).mono ?_; rintro e w' ⟨rfl, rfl⟩))
  go_ret2
  exact ⟨rfl, hb⟩
set_option maxRecDepth 100000 in
set_option maxHeartbeats 400000 in
theorem do_4_narrow (x y : Nat) (w : World) (hx : x < 2 ^ 64) (hy : y < 2 ^ 64) :
    Calls Try.prog 11 #[.int .i64 4, .bool false, .int .u64 x, .int .u64 y] w fun e w' => e = .returned (.tuple #[.int .u64 (doV 4 false x y : Nat), .bool true]) ∧ Below w.heap.size w w' := by
  have hlx : x % 2 ^ 32 < 2 ^ 32 := Nat.mod_lt _ (by decide)
  have hly : y % 2 ^ 32 < 2 ^ 32 := Nat.mod_lt _ (by decide)
  have hm := mid_lt (o := 4) hlx hly
  have HE := Lib.hid (mid_mod (o := 4) (by decide) hlx hly)
  have hfi := tab_field
  have hix := tab_4
  go_enter Try.func11, Try.ntmps11
  go_wp2_with fail
  refine (tabled_any _).mono ?_; rintro e w1 ⟨rfl, hb⟩
  go_wp2_with fail
  refine (low_any x _ hx).mono ?_; rintro e w' ⟨rfl, rfl⟩
  go_wp2_with fail
  refine (low_any y _ hy).mono ?_; rintro e w' ⟨rfl, rfl⟩
  go_wp2_with fail
  refine (f4_32 _ _ _ hlx hly).mono ?_; rintro e w' ⟨rfl, rfl⟩
  go_wp2_with fail
  refine (low_any _ _ hm).mono ?_; rintro e w' ⟨rfl, rfl⟩
  go_wp2_with fail
  go_ret2
  exact ⟨congrArg (fun z : Nat => Ending.returned (.tuple #[.int .u64 (z : Int), .bool true])) HE.out, hb⟩

theorem tab_5 (w : World) : (Instr.index 39 (.agg #[.func (.func 28) #[] #[], .func (.func 29) #[] #[], .func (.func 30) #[] #[], .func (.func 31) #[] #[], .func (.func 32) #[] #[], .func (.func 33) #[] #[], .func (.func 34) #[] #[], .func (.func 35) #[] #[], .func (.func 36) #[] #[], .func (.func 37) #[] #[], .func (.func 38) #[] #[], .func (.func 39) #[] #[], .func (.func 40) #[] #[]]) (.int .i64 5)).run Try.prog w = .ok (.func (.func 33) #[] #[]) w := by kernel_rfl
set_option maxRecDepth 100000 in
set_option maxHeartbeats 400000 in
theorem do_5_wide (x y : Nat) (w : World) (hx : x < 2 ^ 64) (hy : y < 2 ^ 64) :
    Calls Try.prog 11 #[.int .i64 5, .bool true, .int .u64 x, .int .u64 y] w fun e w' => e = .returned (.tuple #[.int .u64 (doV 5 true x y : Nat), .bool true]) ∧ Below w.heap.size w w' := by
  have hfi := tab_field
  have hix := tab_5
  go_enter Try.func11, Try.ntmps11
  go_wp2_with (first | (go_at_call 21; refine (tabled_any _).mono ?_; rintro e w1 ⟨rfl, hb⟩) | (go_at_call 33; refine (f5_64 x y _ hx hy).mono ?_; rintro e w' ⟨rfl, rfl⟩))
  go_ret2
  exact ⟨rfl, hb⟩
set_option maxRecDepth 100000 in
set_option maxHeartbeats 400000 in
theorem do_5_narrow (x y : Nat) (w : World) (hx : x < 2 ^ 64) (hy : y < 2 ^ 64) :
    Calls Try.prog 11 #[.int .i64 5, .bool false, .int .u64 x, .int .u64 y] w fun e w' => e = .returned (.tuple #[.int .u64 (doV 5 false x y : Nat), .bool true]) ∧ Below w.heap.size w w' := by
  have hlx : x % 2 ^ 32 < 2 ^ 32 := Nat.mod_lt _ (by decide)
  have hly : y % 2 ^ 32 < 2 ^ 32 := Nat.mod_lt _ (by decide)
  have hm := mid_lt (o := 5) hlx hly
  have HE := Lib.hid (mid_mod (o := 5) (by decide) hlx hly)
  have hfi := tab_field
  have hix := tab_5
  go_enter Try.func11, Try.ntmps11
  go_wp2_with fail
  refine (tabled_any _).mono ?_; rintro e w1 ⟨rfl, hb⟩
  go_wp2_with fail
  refine (low_any x _ hx).mono ?_; rintro e w' ⟨rfl, rfl⟩
  go_wp2_with fail
  refine (low_any y _ hy).mono ?_; rintro e w' ⟨rfl, rfl⟩
  go_wp2_with fail
  refine (f5_32 _ _ _ hlx hly).mono ?_; rintro e w' ⟨rfl, rfl⟩
  go_wp2_with fail
  refine (low_any _ _ hm).mono ?_; rintro e w' ⟨rfl, rfl⟩
  go_wp2_with fail
  go_ret2
  exact ⟨congrArg (fun z : Nat => Ending.returned (.tuple #[.int .u64 (z : Int), .bool true])) HE.out, hb⟩

theorem tab_6 (w : World) : (Instr.index 39 (.agg #[.func (.func 28) #[] #[], .func (.func 29) #[] #[], .func (.func 30) #[] #[], .func (.func 31) #[] #[], .func (.func 32) #[] #[], .func (.func 33) #[] #[], .func (.func 34) #[] #[], .func (.func 35) #[] #[], .func (.func 36) #[] #[], .func (.func 37) #[] #[], .func (.func 38) #[] #[], .func (.func 39) #[] #[], .func (.func 40) #[] #[]]) (.int .i64 6)).run Try.prog w = .ok (.func (.func 34) #[] #[]) w := by kernel_rfl
set_option maxRecDepth 100000 in
set_option maxHeartbeats 400000 in
theorem do_6_wide (x y : Nat) (w : World) (hx : x < 2 ^ 64) (hy : y < 2 ^ 64) :
    Calls Try.prog 11 #[.int .i64 6, .bool true, .int .u64 x, .int .u64 y] w fun e w' => e = .returned (.tuple #[.int .u64 (doV 6 true x y : Nat), .bool true]) ∧ Below w.heap.size w w' := by
  have hfi := tab_field
  have hix := tab_6
  go_enter Try.func11, Try.ntmps11
  go_wp2_with (first | (go_at_call 21; refine (tabled_any _).mono ?_; rintro e w1 ⟨rfl, hb⟩) | (go_at_call 34; refine (f6_64 x y _ hx hy).mono ?_; rintro e w' ⟨rfl, rfl⟩))
  go_ret2
  exact ⟨rfl, hb⟩
set_option maxRecDepth 100000 in
set_option maxHeartbeats 400000 in
theorem do_6_narrow (x y : Nat) (w : World) (hx : x < 2 ^ 64) (hy : y < 2 ^ 64) :
    Calls Try.prog 11 #[.int .i64 6, .bool false, .int .u64 x, .int .u64 y] w fun e w' => e = .returned (.tuple #[.int .u64 (doV 6 false x y : Nat), .bool true]) ∧ Below w.heap.size w w' := by
  have hlx : x % 2 ^ 32 < 2 ^ 32 := Nat.mod_lt _ (by decide)
  have hly : y % 2 ^ 32 < 2 ^ 32 := Nat.mod_lt _ (by decide)
  have hm := mid_lt (o := 6) hlx hly
  have HE := Lib.hid (mid_mod (o := 6) (by decide) hlx hly)
  have hfi := tab_field
  have hix := tab_6
  go_enter Try.func11, Try.ntmps11
  go_wp2_with fail
  refine (tabled_any _).mono ?_; rintro e w1 ⟨rfl, hb⟩
  go_wp2_with fail
  refine (low_any x _ hx).mono ?_; rintro e w' ⟨rfl, rfl⟩
  go_wp2_with fail
  refine (low_any y _ hy).mono ?_; rintro e w' ⟨rfl, rfl⟩
  go_wp2_with fail
  refine (f6_32 _ _ _ hlx hly).mono ?_; rintro e w' ⟨rfl, rfl⟩
  go_wp2_with fail
  refine (low_any _ _ hm).mono ?_; rintro e w' ⟨rfl, rfl⟩
  go_wp2_with fail
  go_ret2
  exact ⟨congrArg (fun z : Nat => Ending.returned (.tuple #[.int .u64 (z : Int), .bool true])) HE.out, hb⟩

theorem tab_7 (w : World) : (Instr.index 39 (.agg #[.func (.func 28) #[] #[], .func (.func 29) #[] #[], .func (.func 30) #[] #[], .func (.func 31) #[] #[], .func (.func 32) #[] #[], .func (.func 33) #[] #[], .func (.func 34) #[] #[], .func (.func 35) #[] #[], .func (.func 36) #[] #[], .func (.func 37) #[] #[], .func (.func 38) #[] #[], .func (.func 39) #[] #[], .func (.func 40) #[] #[]]) (.int .i64 7)).run Try.prog w = .ok (.func (.func 35) #[] #[]) w := by kernel_rfl
set_option maxRecDepth 100000 in
set_option maxHeartbeats 400000 in
theorem do_7_wide (x y : Nat) (w : World) (hx : x < 2 ^ 64) (hy : y < 2 ^ 64) :
    Calls Try.prog 11 #[.int .i64 7, .bool true, .int .u64 x, .int .u64 y] w fun e w' => e = .returned (.tuple #[.int .u64 (doV 7 true x y : Nat), .bool true]) ∧ Below w.heap.size w w' := by
  have hfi := tab_field
  have hix := tab_7
  go_enter Try.func11, Try.ntmps11
  go_wp2_with (first | (go_at_call 21; refine (tabled_any _).mono ?_; rintro e w1 ⟨rfl, hb⟩) | (go_at_call 35; refine (f7_64 x y _ hx hy).mono ?_; rintro e w' ⟨rfl, rfl⟩))
  go_ret2
  exact ⟨rfl, hb⟩
set_option maxRecDepth 100000 in
set_option maxHeartbeats 400000 in
theorem do_7_narrow (x y : Nat) (w : World) (hx : x < 2 ^ 64) (hy : y < 2 ^ 64) :
    Calls Try.prog 11 #[.int .i64 7, .bool false, .int .u64 x, .int .u64 y] w fun e w' => e = .returned (.tuple #[.int .u64 (doV 7 false x y : Nat), .bool true]) ∧ Below w.heap.size w w' := by
  have hlx : x % 2 ^ 32 < 2 ^ 32 := Nat.mod_lt _ (by decide)
  have hly : y % 2 ^ 32 < 2 ^ 32 := Nat.mod_lt _ (by decide)
  have hm := mid_lt (o := 7) hlx hly
  have HE := Lib.hid (mid_mod (o := 7) (by decide) hlx hly)
  have hfi := tab_field
  have hix := tab_7
  go_enter Try.func11, Try.ntmps11
  go_wp2_with fail
  refine (tabled_any _).mono ?_; rintro e w1 ⟨rfl, hb⟩
  go_wp2_with fail
  refine (low_any x _ hx).mono ?_; rintro e w' ⟨rfl, rfl⟩
  go_wp2_with fail
  refine (low_any y _ hy).mono ?_; rintro e w' ⟨rfl, rfl⟩
  go_wp2_with fail
  refine (f7_32 _ _ _ hlx hly).mono ?_; rintro e w' ⟨rfl, rfl⟩
  go_wp2_with fail
  refine (low_any _ _ hm).mono ?_; rintro e w' ⟨rfl, rfl⟩
  go_wp2_with fail
  go_ret2
  exact ⟨congrArg (fun z : Nat => Ending.returned (.tuple #[.int .u64 (z : Int), .bool true])) HE.out, hb⟩

theorem tab_8 (w : World) : (Instr.index 39 (.agg #[.func (.func 28) #[] #[], .func (.func 29) #[] #[], .func (.func 30) #[] #[], .func (.func 31) #[] #[], .func (.func 32) #[] #[], .func (.func 33) #[] #[], .func (.func 34) #[] #[], .func (.func 35) #[] #[], .func (.func 36) #[] #[], .func (.func 37) #[] #[], .func (.func 38) #[] #[], .func (.func 39) #[] #[], .func (.func 40) #[] #[]]) (.int .i64 8)).run Try.prog w = .ok (.func (.func 36) #[] #[]) w := by kernel_rfl
set_option maxRecDepth 100000 in
set_option maxHeartbeats 400000 in
theorem do_8_wide (x y : Nat) (w : World) (hx : x < 2 ^ 64) (hy : y < 2 ^ 64) :
    Calls Try.prog 11 #[.int .i64 8, .bool true, .int .u64 x, .int .u64 y] w fun e w' => e = .returned (.tuple #[.int .u64 (doV 8 true x y : Nat), .bool true]) ∧ Below w.heap.size w w' := by
  have hfi := tab_field
  have hix := tab_8
  go_enter Try.func11, Try.ntmps11
  go_wp2_with (first | (go_at_call 21; refine (tabled_any _).mono ?_; rintro e w1 ⟨rfl, hb⟩) | (go_at_call 36; refine (f8_64 x y _ hx hy).mono ?_; rintro e w' ⟨rfl, rfl⟩))
  go_ret2
  exact ⟨rfl, hb⟩
set_option maxRecDepth 100000 in
set_option maxHeartbeats 400000 in
theorem do_8_narrow (x y : Nat) (w : World) (hx : x < 2 ^ 64) (hy : y < 2 ^ 64) :
    Calls Try.prog 11 #[.int .i64 8, .bool false, .int .u64 x, .int .u64 y] w fun e w' => e = .returned (.tuple #[.int .u64 (doV 8 false x y : Nat), .bool true]) ∧ Below w.heap.size w w' := by
  have hlx : x % 2 ^ 32 < 2 ^ 32 := Nat.mod_lt _ (by decide)
  have hly : y % 2 ^ 32 < 2 ^ 32 := Nat.mod_lt _ (by decide)
  have hm := mid_lt (o := 8) hlx hly
  have HE := Lib.hid (mid_mod (o := 8) (by decide) hlx hly)
  have hfi := tab_field
  have hix := tab_8
  go_enter Try.func11, Try.ntmps11
  go_wp2_with fail
  refine (tabled_any _).mono ?_; rintro e w1 ⟨rfl, hb⟩
  go_wp2_with fail
  refine (low_any x _ hx).mono ?_; rintro e w' ⟨rfl, rfl⟩
  go_wp2_with fail
  refine (low_any y _ hy).mono ?_; rintro e w' ⟨rfl, rfl⟩
  go_wp2_with fail
  refine (f8_32 _ _ _ hlx hly).mono ?_; rintro e w' ⟨rfl, rfl⟩
  go_wp2_with fail
  refine (low_any _ _ hm).mono ?_; rintro e w' ⟨rfl, rfl⟩
  go_wp2_with fail
  go_ret2
  exact ⟨congrArg (fun z : Nat => Ending.returned (.tuple #[.int .u64 (z : Int), .bool true])) HE.out, hb⟩

theorem tab_9 (w : World) : (Instr.index 39 (.agg #[.func (.func 28) #[] #[], .func (.func 29) #[] #[], .func (.func 30) #[] #[], .func (.func 31) #[] #[], .func (.func 32) #[] #[], .func (.func 33) #[] #[], .func (.func 34) #[] #[], .func (.func 35) #[] #[], .func (.func 36) #[] #[], .func (.func 37) #[] #[], .func (.func 38) #[] #[], .func (.func 39) #[] #[], .func (.func 40) #[] #[]]) (.int .i64 9)).run Try.prog w = .ok (.func (.func 37) #[] #[]) w := by kernel_rfl
set_option maxRecDepth 100000 in
set_option maxHeartbeats 400000 in
theorem do_9_wide (x y : Nat) (w : World) (hx : x < 2 ^ 64) (hy : y < 2 ^ 64) :
    Calls Try.prog 11 #[.int .i64 9, .bool true, .int .u64 x, .int .u64 y] w fun e w' => e = .returned (.tuple #[.int .u64 (doV 9 true x y : Nat), .bool true]) ∧ Below w.heap.size w w' := by
  have hfi := tab_field
  have hix := tab_9
  go_enter Try.func11, Try.ntmps11
  go_wp2_with (first | (go_at_call 21; refine (tabled_any _).mono ?_; rintro e w1 ⟨rfl, hb⟩) | (go_at_call 37; refine (f9_64 x y _ hx hy).mono ?_; rintro e w' ⟨rfl, rfl⟩))
  go_ret2
  exact ⟨rfl, hb⟩
set_option maxRecDepth 100000 in
set_option maxHeartbeats 400000 in
theorem do_9_narrow (x y : Nat) (w : World) (hx : x < 2 ^ 64) (hy : y < 2 ^ 64) :
    Calls Try.prog 11 #[.int .i64 9, .bool false, .int .u64 x, .int .u64 y] w fun e w' => e = .returned (.tuple #[.int .u64 (doV 9 false x y : Nat), .bool true]) ∧ Below w.heap.size w w' := by
  have hlx : x % 2 ^ 32 < 2 ^ 32 := Nat.mod_lt _ (by decide)
  have hly : y % 2 ^ 32 < 2 ^ 32 := Nat.mod_lt _ (by decide)
  have hm := mid_lt (o := 9) hlx hly
  have HE := Lib.hid (mid_mod (o := 9) (by decide) hlx hly)
  have hfi := tab_field
  have hix := tab_9
  go_enter Try.func11, Try.ntmps11
  go_wp2_with fail
  refine (tabled_any _).mono ?_; rintro e w1 ⟨rfl, hb⟩
  go_wp2_with fail
  refine (low_any x _ hx).mono ?_; rintro e w' ⟨rfl, rfl⟩
  go_wp2_with fail
  refine (low_any y _ hy).mono ?_; rintro e w' ⟨rfl, rfl⟩
  go_wp2_with fail
  refine (f9_32 _ _ _ hlx hly).mono ?_; rintro e w' ⟨rfl, rfl⟩
  go_wp2_with fail
  refine (low_any _ _ hm).mono ?_; rintro e w' ⟨rfl, rfl⟩
  go_wp2_with fail
  go_ret2
  exact ⟨congrArg (fun z : Nat => Ending.returned (.tuple #[.int .u64 (z : Int), .bool true])) HE.out, hb⟩

theorem tab_10 (w : World) : (Instr.index 39 (.agg #[.func (.func 28) #[] #[], .func (.func 29) #[] #[], .func (.func 30) #[] #[], .func (.func 31) #[] #[], .func (.func 32) #[] #[], .func (.func 33) #[] #[], .func (.func 34) #[] #[], .func (.func 35) #[] #[], .func (.func 36) #[] #[], .func (.func 37) #[] #[], .func (.func 38) #[] #[], .func (.func 39) #[] #[], .func (.func 40) #[] #[]]) (.int .i64 10)).run Try.prog w = .ok (.func (.func 38) #[] #[]) w := by kernel_rfl
set_option maxRecDepth 100000 in
set_option maxHeartbeats 400000 in
theorem do_10_wide (x y : Nat) (w : World) (hx : x < 2 ^ 64) (hy : y < 2 ^ 64) :
    Calls Try.prog 11 #[.int .i64 10, .bool true, .int .u64 x, .int .u64 y] w fun e w' => e = .returned (.tuple #[.int .u64 (doV 10 true x y : Nat), .bool true]) ∧ Below w.heap.size w w' := by
  have hfi := tab_field
  have hix := tab_10
  go_enter Try.func11, Try.ntmps11
  go_wp2_with (first | (go_at_call 21; refine (tabled_any _).mono ?_; rintro e w1 ⟨rfl, hb⟩) | (go_at_call 38; refine (f10_64 x y _ hx hy).mono ?_; rintro e w' ⟨rfl, rfl⟩))
  go_ret2
  exact ⟨rfl, hb⟩
set_option maxRecDepth 100000 in
set_option maxHeartbeats 400000 in
theorem do_10_narrow (x y : Nat) (w : World) (hx : x < 2 ^ 64) (hy : y < 2 ^ 64) :
    Calls Try.prog 11 #[.int .i64 10, .bool false, .int .u64 x, .int .u64 y] w fun e w' => e = .returned (.tuple #[.int .u64 (doV 10 false x y : Nat), .bool true]) ∧ Below w.heap.size w w' := by
  have hlx : x % 2 ^ 32 < 2 ^ 32 := Nat.mod_lt _ (by decide)
  have hly : y % 2 ^ 32 < 2 ^ 32 := Nat.mod_lt _ (by decide)
  have hm := mid_lt (o := 10) hlx hly
  have HE := Lib.hid (mid_mod (o := 10) (by decide) hlx hly)
  have hfi := tab_field
  have hix := tab_10
  go_enter Try.func11, Try.ntmps11
  go_wp2_with fail
  refine (tabled_any _).mono ?_; rintro e w1 ⟨rfl, hb⟩
  go_wp2_with fail
  refine (low_any x _ hx).mono ?_; rintro e w' ⟨rfl, rfl⟩
  go_wp2_with fail
  refine (low_any y _ hy).mono ?_; rintro e w' ⟨rfl, rfl⟩
  go_wp2_with fail
  refine (f10_32 _ _ _ hlx hly).mono ?_; rintro e w' ⟨rfl, rfl⟩
  go_wp2_with fail
  refine (low_any _ _ hm).mono ?_; rintro e w' ⟨rfl, rfl⟩
  go_wp2_with fail
  go_ret2
  exact ⟨congrArg (fun z : Nat => Ending.returned (.tuple #[.int .u64 (z : Int), .bool true])) HE.out, hb⟩

theorem tab_11 (w : World) : (Instr.index 39 (.agg #[.func (.func 28) #[] #[], .func (.func 29) #[] #[], .func (.func 30) #[] #[], .func (.func 31) #[] #[], .func (.func 32) #[] #[], .func (.func 33) #[] #[], .func (.func 34) #[] #[], .func (.func 35) #[] #[], .func (.func 36) #[] #[], .func (.func 37) #[] #[], .func (.func 38) #[] #[], .func (.func 39) #[] #[], .func (.func 40) #[] #[]]) (.int .i64 11)).run Try.prog w = .ok (.func (.func 39) #[] #[]) w := by kernel_rfl
set_option maxRecDepth 100000 in
set_option maxHeartbeats 400000 in
theorem do_11_wide (x y : Nat) (w : World) (hx : x < 2 ^ 64) (hy : y < 2 ^ 64) :
    Calls Try.prog 11 #[.int .i64 11, .bool true, .int .u64 x, .int .u64 y] w fun e w' => e = .returned (.tuple #[.int .u64 (doV 11 true x y : Nat), .bool true]) ∧ Below w.heap.size w w' := by
  have hfi := tab_field
  have hix := tab_11
  go_enter Try.func11, Try.ntmps11
  go_wp2_with (first | (go_at_call 21; refine (tabled_any _).mono ?_; rintro e w1 ⟨rfl, hb⟩) | (go_at_call 39; refine (f11_64 x y _ hx hy).mono ?_; rintro e w' ⟨rfl, rfl⟩))
  go_ret2
  exact ⟨rfl, hb⟩
set_option maxRecDepth 100000 in
set_option maxHeartbeats 400000 in
theorem do_11_narrow (x y : Nat) (w : World) (hx : x < 2 ^ 64) (hy : y < 2 ^ 64) :
    Calls Try.prog 11 #[.int .i64 11, .bool false, .int .u64 x, .int .u64 y] w fun e w' => e = .returned (.tuple #[.int .u64 (doV 11 false x y : Nat), .bool true]) ∧ Below w.heap.size w w' := by
  have hlx : x % 2 ^ 32 < 2 ^ 32 := Nat.mod_lt _ (by decide)
  have hly : y % 2 ^ 32 < 2 ^ 32 := Nat.mod_lt _ (by decide)
  have hm := mid_lt (o := 11) hlx hly
  have HE := Lib.hid (mid_mod (o := 11) (by decide) hlx hly)
  have hfi := tab_field
  have hix := tab_11
  go_enter Try.func11, Try.ntmps11
  go_wp2_with fail
  refine (tabled_any _).mono ?_; rintro e w1 ⟨rfl, hb⟩
  go_wp2_with fail
  refine (low_any x _ hx).mono ?_; rintro e w' ⟨rfl, rfl⟩
  go_wp2_with fail
  refine (low_any y _ hy).mono ?_; rintro e w' ⟨rfl, rfl⟩
  go_wp2_with fail
  refine (f11_32 _ _ _ hlx hly).mono ?_; rintro e w' ⟨rfl, rfl⟩
  go_wp2_with fail
  refine (low_any _ _ hm).mono ?_; rintro e w' ⟨rfl, rfl⟩
  go_wp2_with fail
  go_ret2
  exact ⟨congrArg (fun z : Nat => Ending.returned (.tuple #[.int .u64 (z : Int), .bool true])) HE.out, hb⟩

theorem tab_12 (w : World) : (Instr.index 39 (.agg #[.func (.func 28) #[] #[], .func (.func 29) #[] #[], .func (.func 30) #[] #[], .func (.func 31) #[] #[], .func (.func 32) #[] #[], .func (.func 33) #[] #[], .func (.func 34) #[] #[], .func (.func 35) #[] #[], .func (.func 36) #[] #[], .func (.func 37) #[] #[], .func (.func 38) #[] #[], .func (.func 39) #[] #[], .func (.func 40) #[] #[]]) (.int .i64 12)).run Try.prog w = .ok (.func (.func 40) #[] #[]) w := by kernel_rfl
set_option maxRecDepth 100000 in
set_option maxHeartbeats 400000 in
theorem do_12_wide (x y : Nat) (w : World) (hx : x < 2 ^ 64) (hy : y < 2 ^ 64) :
    Calls Try.prog 11 #[.int .i64 12, .bool true, .int .u64 x, .int .u64 y] w fun e w' => e = .returned (.tuple #[.int .u64 (doV 12 true x y : Nat), .bool true]) ∧ Below w.heap.size w w' := by
  have hfi := tab_field
  have hix := tab_12
  go_enter Try.func11, Try.ntmps11
  go_wp2_with (first | (go_at_call 21; refine (tabled_any _).mono ?_; rintro e w1 ⟨rfl, hb⟩) | (go_at_call 40; refine (f12_64 x y _ hx hy).mono ?_; rintro e w' ⟨rfl, rfl⟩))
  go_ret2
  exact ⟨rfl, hb⟩
set_option maxRecDepth 100000 in
set_option maxHeartbeats 400000 in
theorem do_12_narrow (x y : Nat) (w : World) (hx : x < 2 ^ 64) (hy : y < 2 ^ 64) :
    Calls Try.prog 11 #[.int .i64 12, .bool false, .int .u64 x, .int .u64 y] w fun e w' => e = .returned (.tuple #[.int .u64 (doV 12 false x y : Nat), .bool true]) ∧ Below w.heap.size w w' := by
  have hlx : x % 2 ^ 32 < 2 ^ 32 := Nat.mod_lt _ (by decide)
  have hly : y % 2 ^ 32 < 2 ^ 32 := Nat.mod_lt _ (by decide)
  have hm := mid_lt (o := 12) hlx hly
  have HE := Lib.hid (mid_mod (o := 12) (by decide) hlx hly)
  have hfi := tab_field
  have hix := tab_12
  go_enter Try.func11, Try.ntmps11
  go_wp2_with fail
  refine (tabled_any _).mono ?_; rintro e w1 ⟨rfl, hb⟩
  go_wp2_with fail
  refine (low_any x _ hx).mono ?_; rintro e w' ⟨rfl, rfl⟩
  go_wp2_with fail
  refine (low_any y _ hy).mono ?_; rintro e w' ⟨rfl, rfl⟩
  go_wp2_with fail
  refine (f12_32 _ _ _ hlx hly).mono ?_; rintro e w' ⟨rfl, rfl⟩
  go_wp2_with fail
  refine (low_any _ _ hm).mono ?_; rintro e w' ⟨rfl, rfl⟩
  go_wp2_with fail
  go_ret2
  exact ⟨congrArg (fun z : Nat => Ending.returned (.tuple #[.int .u64 (z : Int), .bool true])) HE.out, hb⟩

/-- alu.Do at an operation, whole. -/
theorem do_op (o : Nat) (b : Bool) (x y : Nat) (w : World) (ho : o ≤ 12) (hx : x < 2 ^ 64) (hy : y < 2 ^ 64) :
    Calls Try.prog 11 #[.int .i64 o, .bool b, .int .u64 x, .int .u64 y] w fun e w' => e = .returned (.tuple #[.int .u64 (doV o b x y : Nat), .bool true]) ∧ Below w.heap.size w w' := by
  match o, ho, b with
  | 0, _, true => exact do_0_wide x y w hx hy
  | 0, _, false => exact do_0_narrow x y w hx hy
  | 1, _, true => exact do_1_wide x y w hx hy
  | 1, _, false => exact do_1_narrow x y w hx hy
  | 2, _, true => exact do_2_wide x y w hx hy
  | 2, _, false => exact do_2_narrow x y w hx hy
  | 3, _, true => exact do_3_wide x y w hx hy
  | 3, _, false => exact do_3_narrow x y w hx hy
  | 4, _, true => exact do_4_wide x y w hx hy
  | 4, _, false => exact do_4_narrow x y w hx hy
  | 5, _, true => exact do_5_wide x y w hx hy
  | 5, _, false => exact do_5_narrow x y w hx hy
  | 6, _, true => exact do_6_wide x y w hx hy
  | 6, _, false => exact do_6_narrow x y w hx hy
  | 7, _, true => exact do_7_wide x y w hx hy
  | 7, _, false => exact do_7_narrow x y w hx hy
  | 8, _, true => exact do_8_wide x y w hx hy
  | 8, _, false => exact do_8_narrow x y w hx hy
  | 9, _, true => exact do_9_wide x y w hx hy
  | 9, _, false => exact do_9_narrow x y w hx hy
  | 10, _, true => exact do_10_wide x y w hx hy
  | 10, _, false => exact do_10_narrow x y w hx hy
  | 11, _, true => exact do_11_wide x y w hx hy
  | 11, _, false => exact do_11_narrow x y w hx hy
  | 12, _, true => exact do_12_wide x y w hx hy
  | 12, _, false => exact do_12_narrow x y w hx hy
end Go.Proofs.Ytdpnhpennceldaa
