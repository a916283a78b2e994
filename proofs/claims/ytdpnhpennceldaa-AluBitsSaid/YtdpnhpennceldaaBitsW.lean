/-
  THE WALK of AluBits: of Or, And, Xor: what both and what one of them have; twice xored a number is back.
-/
import Derived.Test.YtdpnhpennceldaaKnown
namespace Go.Proofs.Ytdpnhpennceldaa
open Go.RowKit M
set_option linter.unusedVariables false

theorem bits_add_wide {x y : Nat} : doV 0 true (doV 4 true x y) (doV 5 true x y) = doV 0 true x y := by
  simp only [doV, op, if_true]; rw [or_and_add]
theorem bits_sub_wide {x y : Nat} (hx : x < 2 ^ 64) (hy : y < 2 ^ 64) : doV 1 true (doV 4 true x y) (doV 5 true x y) = doV 10 true x y := by
  simp only [doV, op, if_true]; exact sub_of (or_eq_xor_add_and x y) (Nat.or_lt_two_pow hx hy)
theorem bits_back_wide {x y : Nat} : doV 10 true (doV 10 true x y) y = x := by
  simp only [doV, op, if_true]; exact xor_back x y
theorem bits_add_narrow {x y : Nat} : doV 0 false (doV 4 false x y) (doV 5 false x y) = doV 0 false x y := by
  simp only [doV, op, Bool.false_eq_true, if_false]
  rw [Nat.mod_eq_of_lt (Nat.or_lt_two_pow (Nat.mod_lt x (pow_pos 32)) (Nat.mod_lt y (pow_pos 32))), Nat.mod_eq_of_lt (Nat.and_lt_two_pow _ (Nat.mod_lt y (pow_pos 32))), or_and_add]
theorem bits_sub_narrow {x y : Nat} : doV 1 false (doV 4 false x y) (doV 5 false x y) = doV 10 false x y := by
  have hx := Nat.mod_lt x (pow_pos 32)
  have hy := Nat.mod_lt y (pow_pos 32)
  simp only [doV, op, Bool.false_eq_true, if_false]
  rw [Nat.mod_eq_of_lt (Nat.or_lt_two_pow hx hy), Nat.mod_eq_of_lt (Nat.and_lt_two_pow _ hy)]
  exact sub_of (or_eq_xor_add_and _ _) (Nat.or_lt_two_pow hx hy)
theorem bits_back_narrow {x y : Nat} : doV 10 false (doV 10 false x y) y = x % 2 ^ 32 := by
  simp only [doV, op, Bool.false_eq_true, if_false]
  rw [Nat.mod_eq_of_lt (Nat.xor_lt_two_pow (Nat.mod_lt x (pow_pos 32)) (Nat.mod_lt y (pow_pos 32)))]
  exact xor_back _ _

set_option maxRecDepth 100000 in
set_option maxHeartbeats 1000000 in
theorem aluBits_wide (x y o n z s : Nat) (w : World) (hx : x < 2 ^ 64) (hy : y < 2 ^ 64) (ho : o < 2 ^ 64) (hn : n < 2 ^ 64) (hz : z < 2 ^ 64)
    (e1 : Hid (doV 4 true x y = o)) (e2 : Hid (doV 5 true x y = n)) (e3 : Hid (doV 10 true x y = z)) (e4 : Hid (doV 10 true z y = x)) (e5 : Hid (doV 0 true o n = s)) (e6 : Hid (doV 0 true x y = s)) (e7 : Hid (doV 1 true o n = z)) :
    Calls Try.prog 7 #[.bool true, .int .u64 x, .int .u64 y] w fun e w' => e = .returned (.bool true) ∧ Below w.heap.size w w' := by
  go_enter Try.func7, Try.ntmps7
  go_wp2_with fail
  refine (known_any _).mono ?_; rintro e w1 ⟨rfl, h1⟩
  go_wp2_with fail
  refine (do_val (o' := 4) rfl rfl rfl (by decide) hx hy e1.out _).mono ?_; rintro e w2 ⟨rfl, h2⟩
  go_wp2_with fail
  refine (do_val (o' := 5) rfl rfl rfl (by decide) hx hy e2.out _).mono ?_; rintro e w3 ⟨rfl, h3⟩
  go_wp2_with fail
  refine (do_val (o' := 10) rfl rfl rfl (by decide) hx hy e3.out _).mono ?_; rintro e w4 ⟨rfl, h4⟩
  go_wp2_with fail
  refine (do_val (o' := 10) rfl rfl rfl (by decide) hz hy e4.out _).mono ?_; rintro e w5 ⟨rfl, h5⟩
  go_wp2_with fail
  refine (do_val (o' := 0) rfl rfl rfl (by decide) ho hn e5.out _).mono ?_; rintro e w6 ⟨rfl, h6⟩
  go_wp2_with fail
  refine (do_val (o' := 0) rfl rfl rfl (by decide) hx hy e6.out _).mono ?_; rintro e w7 ⟨rfl, h7⟩
  go_wp2_with fail
  refine (do_val (o' := 1) rfl rfl rfl (by decide) ho hn e7.out _).mono ?_; rintro e w8 ⟨rfl, h8⟩
  go_wp2_with fail
  go_ret
  exact ⟨rfl, below_then (below_then (below_then (below_then (below_then (below_then (below_then (h1) h2) h3) h4) h5) h6) h7) h8⟩

set_option maxRecDepth 100000 in
set_option maxHeartbeats 1000000 in
theorem aluBits_narrow (x y o n z s : Nat) (w : World) (hx : x < 2 ^ 64) (hy : y < 2 ^ 64) (ho : o < 2 ^ 64) (hn : n < 2 ^ 64) (hz : z < 2 ^ 64)
    (e1 : Hid (doV 4 false x y = o)) (e2 : Hid (doV 5 false x y = n)) (e3 : Hid (doV 10 false x y = z)) (e4 : Hid (doV 10 false z y = x % 2 ^ 32)) (e5 : Hid (doV 0 false o n = s)) (e6 : Hid (doV 0 false x y = s)) (e7 : Hid (doV 1 false o n = z)) :
    Calls Try.prog 7 #[.bool false, .int .u64 x, .int .u64 y] w fun e w' => e = .returned (.bool true) ∧ Below w.heap.size w w' := by
  go_enter Try.func7, Try.ntmps7
  go_wp2_with fail
  refine (known_any _).mono ?_; rintro e w1 ⟨rfl, h1⟩
  go_wp2_with fail
  refine (do_val (o' := 4) rfl rfl rfl (by decide) hx hy e1.out _).mono ?_; rintro e w2 ⟨rfl, h2⟩
  go_wp2_with fail
  refine (do_val (o' := 5) rfl rfl rfl (by decide) hx hy e2.out _).mono ?_; rintro e w3 ⟨rfl, h3⟩
  go_wp2_with fail
  refine (do_val (o' := 10) rfl rfl rfl (by decide) hx hy e3.out _).mono ?_; rintro e w4 ⟨rfl, h4⟩
  go_wp2_with fail
  refine (do_val (o' := 10) rfl rfl rfl (by decide) hz hy e4.out _).mono ?_; rintro e w5 ⟨rfl, h5⟩
  go_wp2_with fail
  refine (do_val (o' := 0) rfl rfl rfl (by decide) ho hn e5.out _).mono ?_; rintro e w6 ⟨rfl, h6⟩
  go_wp2_with fail
  refine (do_val (o' := 0) rfl rfl rfl (by decide) hx hy e6.out _).mono ?_; rintro e w7 ⟨rfl, h7⟩
  go_wp2_with fail
  refine (do_val (o' := 1) rfl rfl rfl (by decide) ho hn e7.out _).mono ?_; rintro e w8 ⟨rfl, h8⟩
  go_wp2_with fail
  go_ret
  exact ⟨rfl, below_then (below_then (below_then (below_then (below_then (below_then (below_then (h1) h2) h3) h4) h5) h6) h7) h8⟩

theorem aluBits_walk (a0 : Bool) (a1 : Int) (a2 : Int) (w1 : (Lit.int .u64 a1).wf = true) (w2 : (Lit.int .u64 a2).wf = true) (w : World) :
    Calls Try.prog 7 #[.bool a0, .int .u64 a1, .int .u64 a2] w fun e w' => e = .returned (.bool true) ∧ Below w.heap.size w w' := by
  obtain ⟨x, rfl, hx⟩ := nat_of_u64 w1
  obtain ⟨y, rfl, hy⟩ := nat_of_u64 w2
  cases a0 with
  | true => exact aluBits_wide x y _ _ _ _ w hx hy (doV_lt hx hy) (doV_lt hx hy) (doV_lt hx hy) rfl rfl rfl bits_back_wide bits_add_wide rfl (bits_sub_wide hx hy)
  | false => exact aluBits_narrow x y _ _ _ _ w hx hy (doV_lt hx hy) (doV_lt hx hy) (doV_lt hx hy) rfl rfl rfl bits_back_narrow bits_add_narrow rfl bits_sub_narrow
end Go.Proofs.Ytdpnhpennceldaa
