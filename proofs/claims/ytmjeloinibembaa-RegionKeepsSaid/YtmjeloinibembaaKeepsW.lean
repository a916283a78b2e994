/-
  RegionKeeps: the walk of the law.
-/
import Derived.Test.YtmjeloinibembaaKeepsN1
import Derived.Test.YtmjeloinibembaaKeepsN2
import Derived.Test.YtmjeloinibembaaKeepsN3
import Derived.Test.YtmjeloinibembaaKeepsN4
import Derived.Test.YtmjeloinibembaaKeepsN5
import Derived.Test.YtmjeloinibembaaKeepsN6
import Derived.Test.YtmjeloinibembaaKeepsN7
import Derived.Test.YtmjeloinibembaaKeepsN8
import Derived.Test.YtmjeloinibembaaKeepsP1
import Derived.Test.YtmjeloinibembaaKeepsP2
import Derived.Test.YtmjeloinibembaaKeepsP3
import Derived.Test.YtmjeloinibembaaKeepsP4
import Derived.Test.YtmjeloinibembaaKeepsP5
namespace Go.Proofs.Ytmjeloinibembaa
open Go.RowKit
set_option linter.unusedVariables false
set_option linter.unusedSimpArgs false
set_option maxRecDepth 100000 in
set_option maxHeartbeats 8000000 in
theorem keeps_no (a0 a1 a2 a3 : Int) (x y : Nat) (p : Bool) (w : World) (h1 : a2 ≠ 1) (h2 : a2 ≠ 2) (h4 : a2 ≠ 4) (h8 : a2 ≠ 8) :
    Calls Try.prog 7 #[.int .i64 a0, .int .i64 a1, .int .i64 a2, .int .i64 a3, .int .u64 x, .int .u64 y, .bool p] w fun e w' => e = .returned (.bool true) ∧ Below w.heap.size w w' := by
  have ba21 : (a2 != 1) = true := by simpa using h1
  have ba22 : (a2 != 2) = true := by simpa using h2
  have ba24 : (a2 != 4) = true := by simpa using h4
  have ba28 : (a2 != 8) = true := by simpa using h8
  clear h1 h2 h4 h8
  go_enter Try.func7, Try.ntmps7
  go_wp2_with fail
  refine (f39_ok w).mono ?_; rintro e w1 ⟨rfl, hb1⟩
  go_wp2_with fail
  all_goals (go_ret; exact ⟨rfl, hb1⟩)
set_option maxRecDepth 100000 in
set_option maxHeartbeats 8000000 in
theorem keeps_no1 (a0 a1 a3 : Int) (x y : Nat) (p : Bool) (w : World) (h1 : a3 ≠ 1) (h2 : a3 ≠ 2) (h4 : a3 ≠ 4) (h8 : a3 ≠ 8) :
    Calls Try.prog 7 #[.int .i64 a0, .int .i64 a1, .int .i64 1, .int .i64 a3, .int .u64 x, .int .u64 y, .bool p] w fun e w' => e = .returned (.bool true) ∧ Below w.heap.size w w' := by
  have ba31 : (a3 != 1) = true := by simpa using h1
  have ba32 : (a3 != 2) = true := by simpa using h2
  have ba34 : (a3 != 4) = true := by simpa using h4
  have ba38 : (a3 != 8) = true := by simpa using h8
  clear h1 h2 h4 h8
  go_enter Try.func7, Try.ntmps7
  go_wp2_with fail
  refine (f39_ok w).mono ?_; rintro e w1 ⟨rfl, hb1⟩
  go_wp2_with fail
  all_goals (go_ret; exact ⟨rfl, hb1⟩)
set_option maxRecDepth 100000 in
set_option maxHeartbeats 8000000 in
theorem keeps_no2 (a0 a1 a3 : Int) (x y : Nat) (p : Bool) (w : World) (h1 : a3 ≠ 1) (h2 : a3 ≠ 2) (h4 : a3 ≠ 4) (h8 : a3 ≠ 8) :
    Calls Try.prog 7 #[.int .i64 a0, .int .i64 a1, .int .i64 2, .int .i64 a3, .int .u64 x, .int .u64 y, .bool p] w fun e w' => e = .returned (.bool true) ∧ Below w.heap.size w w' := by
  have ba31 : (a3 != 1) = true := by simpa using h1
  have ba32 : (a3 != 2) = true := by simpa using h2
  have ba34 : (a3 != 4) = true := by simpa using h4
  have ba38 : (a3 != 8) = true := by simpa using h8
  clear h1 h2 h4 h8
  go_enter Try.func7, Try.ntmps7
  go_wp2_with fail
  refine (f39_ok w).mono ?_; rintro e w1 ⟨rfl, hb1⟩
  go_wp2_with fail
  all_goals (go_ret; exact ⟨rfl, hb1⟩)
set_option maxRecDepth 100000 in
set_option maxHeartbeats 8000000 in
theorem keeps_no4 (a0 a1 a3 : Int) (x y : Nat) (p : Bool) (w : World) (h1 : a3 ≠ 1) (h2 : a3 ≠ 2) (h4 : a3 ≠ 4) (h8 : a3 ≠ 8) :
    Calls Try.prog 7 #[.int .i64 a0, .int .i64 a1, .int .i64 4, .int .i64 a3, .int .u64 x, .int .u64 y, .bool p] w fun e w' => e = .returned (.bool true) ∧ Below w.heap.size w w' := by
  have ba31 : (a3 != 1) = true := by simpa using h1
  have ba32 : (a3 != 2) = true := by simpa using h2
  have ba34 : (a3 != 4) = true := by simpa using h4
  have ba38 : (a3 != 8) = true := by simpa using h8
  clear h1 h2 h4 h8
  go_enter Try.func7, Try.ntmps7
  go_wp2_with fail
  refine (f39_ok w).mono ?_; rintro e w1 ⟨rfl, hb1⟩
  go_wp2_with fail
  all_goals (go_ret; exact ⟨rfl, hb1⟩)
set_option maxRecDepth 100000 in
set_option maxHeartbeats 8000000 in
theorem keeps_no8 (a0 a1 a3 : Int) (x y : Nat) (p : Bool) (w : World) (h1 : a3 ≠ 1) (h2 : a3 ≠ 2) (h4 : a3 ≠ 4) (h8 : a3 ≠ 8) :
    Calls Try.prog 7 #[.int .i64 a0, .int .i64 a1, .int .i64 8, .int .i64 a3, .int .u64 x, .int .u64 y, .bool p] w fun e w' => e = .returned (.bool true) ∧ Below w.heap.size w w' := by
  have ba31 : (a3 != 1) = true := by simpa using h1
  have ba32 : (a3 != 2) = true := by simpa using h2
  have ba34 : (a3 != 4) = true := by simpa using h4
  have ba38 : (a3 != 8) = true := by simpa using h8
  clear h1 h2 h4 h8
  go_enter Try.func7, Try.ntmps7
  go_wp2_with fail
  refine (f39_ok w).mono ?_; rintro e w1 ⟨rfl, hb1⟩
  go_wp2_with fail
  all_goals (go_ret; exact ⟨rfl, hb1⟩)
theorem regionKeeps_walk (a0 a1 a2 a3 a4 a5 : Int) (a6 : Bool) (w0 : (Lit.int .i64 a0).wf = true) (w1 : (Lit.int .i64 a1).wf = true) (w2 : (Lit.int .i64 a2).wf = true) (w3 : (Lit.int .i64 a3).wf = true) (w4 : (Lit.int .u64 a4).wf = true) (w5 : (Lit.int .u64 a5).wf = true) (w : World) :
    Calls Try.prog 7 #[.int .i64 a0, .int .i64 a1, .int .i64 a2, .int .i64 a3, .int .u64 a4, .int .u64 a5, .bool a6] w fun e w' => e = .returned (.bool true) ∧ Below w.heap.size w w' := by
  have hx := bounds_u64 w4
  have hy := bounds_u64 w5
  obtain ⟨x, rfl⟩ : ∃ x : Nat, a4 = x := ⟨a4.toNat, by omega⟩
  obtain ⟨y, rfl⟩ : ∃ y : Nat, a5 = y := ⟨a5.toNat, by omega⟩
  have hx' : x < 2 ^ 64 := by omega
  have hy' : y < 2 ^ 64 := by omega
  by_cases h1 : a2 = 1 ∨ a2 = 2 ∨ a2 = 4 ∨ a2 = 8
  · by_cases h2 : a3 = 1 ∨ a3 = 2 ∨ a3 = 4 ∨ a3 = 8
    · rcases h1 with rfl | rfl | rfl | rfl
      · rcases h2 with rfl | rfl | rfl | rfl
        · cases a6
          · exact keeps_n_1_1 a0 a1 x y hx' hy' w
          · exact keeps_p_1_1 a0 a1 x y hx' hy' w
        · cases a6
          · exact keeps_n_1_2 a0 a1 x y hx' hy' w
          · exact keeps_p_1_2 a0 a1 x y hx' hy' w
        · cases a6
          · exact keeps_n_1_4 a0 a1 x y hx' hy' w
          · exact keeps_p_1_4 a0 a1 x y hx' hy' w
        · cases a6
          · exact keeps_n_1_8 a0 a1 x y hx' hy' w
          · exact keeps_p_1_8 a0 a1 x y hx' hy' w
      · rcases h2 with rfl | rfl | rfl | rfl
        · cases a6
          · exact keeps_n_2_1 a0 a1 x y hx' hy' w
          · exact keeps_p_2_1 a0 a1 x y hx' hy' w
        · cases a6
          · exact keeps_n_2_2 a0 a1 x y hx' hy' w
          · exact keeps_p_2_2 a0 a1 x y hx' hy' w
        · cases a6
          · exact keeps_n_2_4 a0 a1 x y hx' hy' w
          · exact keeps_p_2_4 a0 a1 x y hx' hy' w
        · cases a6
          · exact keeps_n_2_8 a0 a1 x y hx' hy' w
          · exact keeps_p_2_8 a0 a1 x y hx' hy' w
      · rcases h2 with rfl | rfl | rfl | rfl
        · cases a6
          · exact keeps_n_4_1 a0 a1 x y hx' hy' w
          · exact keeps_p_4_1 a0 a1 x y hx' hy' w
        · cases a6
          · exact keeps_n_4_2 a0 a1 x y hx' hy' w
          · exact keeps_p_4_2 a0 a1 x y hx' hy' w
        · cases a6
          · exact keeps_n_4_4 a0 a1 x y hx' hy' w
          · exact keeps_p_4_4 a0 a1 x y hx' hy' w
        · cases a6
          · exact keeps_n_4_8 a0 a1 x y hx' hy' w
          · exact keeps_p_4_8 a0 a1 x y hx' hy' w
      · rcases h2 with rfl | rfl | rfl | rfl
        · cases a6
          · exact keeps_n_8_1 a0 a1 x y hx' hy' w
          · exact keeps_p_8_1 a0 a1 x y hx' hy' w
        · cases a6
          · exact keeps_n_8_2 a0 a1 x y hx' hy' w
          · exact keeps_p_8_2 a0 a1 x y hx' hy' w
        · cases a6
          · exact keeps_n_8_4 a0 a1 x y hx' hy' w
          · exact keeps_p_8_4 a0 a1 x y hx' hy' w
        · cases a6
          · exact keeps_n_8_8 a0 a1 x y hx' hy' w
          · exact keeps_p_8_8 a0 a1 x y hx' hy' w
    · rcases h1 with rfl | rfl | rfl | rfl
      · exact keeps_no1 a0 a1 a3 x y a6 w (fun h => h2 (by omega)) (fun h => h2 (by omega)) (fun h => h2 (by omega)) (fun h => h2 (by omega))
      · exact keeps_no2 a0 a1 a3 x y a6 w (fun h => h2 (by omega)) (fun h => h2 (by omega)) (fun h => h2 (by omega)) (fun h => h2 (by omega))
      · exact keeps_no4 a0 a1 a3 x y a6 w (fun h => h2 (by omega)) (fun h => h2 (by omega)) (fun h => h2 (by omega)) (fun h => h2 (by omega))
      · exact keeps_no8 a0 a1 a3 x y a6 w (fun h => h2 (by omega)) (fun h => h2 (by omega)) (fun h => h2 (by omega)) (fun h => h2 (by omega))
  · exact keeps_no a0 a1 a2 a3 x y a6 w (fun h => h1 (by omega)) (fun h => h1 (by omega)) (fun h => h1 (by omega)) (fun h => h1 (by omega))
end Go.Proofs.Ytmjeloinibembaa
