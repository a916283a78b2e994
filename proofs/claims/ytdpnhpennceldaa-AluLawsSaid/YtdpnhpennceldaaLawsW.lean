/-
  THE WALK of AluLaws: sums and products go both ways, quotient and rest make the number, what is not wide hangs on the lowest 32 bits alone.
-/
import Derived.Test.YtdpnhpennceldaaKnown
namespace Go.Proofs.Ytdpnhpennceldaa
open Go.RowKit M
set_option linter.unusedVariables false

theorem do_comm_add (b : Bool) (x y : Nat) : doV 0 b y x = doV 0 b x y := by
  cases b <;> simp only [doV, op, Bool.false_eq_true, if_false, if_true] <;> rw [Nat.add_comm]
theorem do_comm_mul (b : Bool) (x y : Nat) : doV 2 b y x = doV 2 b x y := by
  cases b <;> simp only [doV, op, Bool.false_eq_true, if_false, if_true] <;> rw [Nat.mul_comm]
theorem do_quot_wide {x y : Nat} (hx : x < 2 ^ 64) : doV 0 true (doV 2 true (doV 3 true x y) y) (doV 9 true x y) = x := by
  simp only [doV, op, if_true]
  exact quot_rest hx
theorem do_quot_narrow (x y : Nat) : doV 0 false (doV 2 false (doV 3 false x y) y) (doV 9 false x y) = x % 2 ^ 32 := by
  have hx : x % 2 ^ 32 < 2 ^ 32 := Nat.mod_lt _ (by decide)
  simp only [doV, op, Bool.false_eq_true, if_false]
  have h1 : x % 2 ^ 32 / (y % 2 ^ 32) % 2 ^ 32 = x % 2 ^ 32 / (y % 2 ^ 32) := Nat.mod_eq_of_lt (Nat.lt_of_le_of_lt (Nat.div_le_self _ _) hx)
  have h2 : x % 2 ^ 32 % (y % 2 ^ 32) % 2 ^ 32 = x % 2 ^ 32 % (y % 2 ^ 32) := Nat.mod_eq_of_lt (Nat.lt_of_le_of_lt (Nat.mod_le _ _) hx)
  rw [h1, h2, Nat.mod_mod]
  exact quot_rest hx

set_option maxRecDepth 100000 in
set_option maxHeartbeats 1000000 in
theorem aluLaws_wide_op (o : Nat) (x y s p d r m v : Nat) (w : World) (ho : o ≤ 12) (hx : x < 2 ^ 64) (hy : y < 2 ^ 64) (hd : d < 2 ^ 64) (hr : r < 2 ^ 64) (hm : m < 2 ^ 64)
    (e1 : Hid (doV 0 true x y = s)) (e2 : Hid (doV 0 true y x = s)) (e3 : Hid (doV 2 true x y = p)) (e4 : Hid (doV 2 true y x = p)) (e5 : Hid (doV 3 true x y = d)) (e6 : Hid (doV 9 true x y = r)) (e7 : Hid (doV 2 true d y = m)) (e8 : Hid (doV 0 true m r = x))
    (e9 : Hid (doV o false x y = v)) (e10 : Hid (doV o false (x % 2 ^ 32) (y % 2 ^ 32) = v)) (hv : v < 4294967296) :
    Calls Try.prog 4 #[.int .i64 o, .bool true, .int .u64 x, .int .u64 y] w fun e w' => e = .returned (.bool true) ∧ Below w.heap.size w w' := by
  have hxm : x % 2 ^ 32 < 2 ^ 64 := Nat.lt_of_le_of_lt (Nat.mod_le _ _) hx
  have hym : y % 2 ^ 32 < 2 ^ 64 := Nat.lt_of_le_of_lt (Nat.mod_le _ _) hy
  go_enter Try.func4, Try.ntmps4
  go_wp2_with fail
  refine (known_any _).mono ?_; rintro e w1 ⟨rfl, h1⟩
  go_wp2_with fail
  refine (do_val (o' := 0) rfl rfl rfl (by decide) hx hy e1.out _).mono ?_; rintro e w2 ⟨rfl, h2⟩
  go_wp2_with fail
  refine (do_val (o' := 0) rfl rfl rfl (by decide) hy hx e2.out _).mono ?_; rintro e w3 ⟨rfl, h3⟩
  go_wp2_with fail
  refine (do_val (o' := 2) rfl rfl rfl (by decide) hx hy e3.out _).mono ?_; rintro e w4 ⟨rfl, h4⟩
  go_wp2_with fail
  refine (do_val (o' := 2) rfl rfl rfl (by decide) hy hx e4.out _).mono ?_; rintro e w5 ⟨rfl, h5⟩
  go_wp2_with fail
  refine (do_val (o' := 3) rfl rfl rfl (by decide) hx hy e5.out _).mono ?_; rintro e w6 ⟨rfl, h6⟩
  go_wp2_with fail
  refine (do_val (o' := 9) rfl rfl rfl (by decide) hx hy e6.out _).mono ?_; rintro e w7 ⟨rfl, h7⟩
  go_wp2_with fail
  refine (do_val (o' := 2) rfl rfl rfl (by decide) hd hy e7.out _).mono ?_; rintro e w8 ⟨rfl, h8⟩
  go_wp2_with fail
  refine (do_val (o' := 0) rfl rfl rfl (by decide) hm hr e8.out _).mono ?_; rintro e w9 ⟨rfl, h9⟩
  go_wp2_with fail
  refine (do_val rfl rfl rfl ho hx hy e9.out _).mono ?_; rintro e w10 ⟨rfl, h10⟩
  go_wp2_with fail
  refine (do_val (x' := x % 2 ^ 32) (y' := y % 2 ^ 32) rfl rfl rfl ho hxm hym e10.out _).mono ?_; rintro e w11 ⟨rfl, h11⟩
  go_wp2_with fail
  go_ret
  exact ⟨by simp; omega, below_then (below_then (below_then (below_then (below_then (below_then (below_then (below_then (below_then (below_then (h1) h2) h3) h4) h5) h6) h7) h8) h9) h10) h11⟩

set_option maxRecDepth 100000 in
set_option maxHeartbeats 1000000 in
theorem aluLaws_wide_none (o : Int) (x y s p d r m : Nat) (w : World) (ho : o < 0 ∨ 12 < o) (hx : x < 2 ^ 64) (hy : y < 2 ^ 64) (hd : d < 2 ^ 64) (hr : r < 2 ^ 64) (hm : m < 2 ^ 64)
    (e1 : Hid (doV 0 true x y = s)) (e2 : Hid (doV 0 true y x = s)) (e3 : Hid (doV 2 true x y = p)) (e4 : Hid (doV 2 true y x = p)) (e5 : Hid (doV 3 true x y = d)) (e6 : Hid (doV 9 true x y = r)) (e7 : Hid (doV 2 true d y = m)) (e8 : Hid (doV 0 true m r = x))
     :
    Calls Try.prog 4 #[.int .i64 o, .bool true, .int .u64 x, .int .u64 y] w fun e w' => e = .returned (.bool true) ∧ Below w.heap.size w w' := by
  have hxm : x % 2 ^ 32 < 2 ^ 64 := Nat.lt_of_le_of_lt (Nat.mod_le _ _) hx
  have hym : y % 2 ^ 32 < 2 ^ 64 := Nat.lt_of_le_of_lt (Nat.mod_le _ _) hy
  go_enter Try.func4, Try.ntmps4
  go_wp2_with fail
  refine (known_any _).mono ?_; rintro e w1 ⟨rfl, h1⟩
  go_wp2_with fail
  refine (do_val (o' := 0) rfl rfl rfl (by decide) hx hy e1.out _).mono ?_; rintro e w2 ⟨rfl, h2⟩
  go_wp2_with fail
  refine (do_val (o' := 0) rfl rfl rfl (by decide) hy hx e2.out _).mono ?_; rintro e w3 ⟨rfl, h3⟩
  go_wp2_with fail
  refine (do_val (o' := 2) rfl rfl rfl (by decide) hx hy e3.out _).mono ?_; rintro e w4 ⟨rfl, h4⟩
  go_wp2_with fail
  refine (do_val (o' := 2) rfl rfl rfl (by decide) hy hx e4.out _).mono ?_; rintro e w5 ⟨rfl, h5⟩
  go_wp2_with fail
  refine (do_val (o' := 3) rfl rfl rfl (by decide) hx hy e5.out _).mono ?_; rintro e w6 ⟨rfl, h6⟩
  go_wp2_with fail
  refine (do_val (o' := 9) rfl rfl rfl (by decide) hx hy e6.out _).mono ?_; rintro e w7 ⟨rfl, h7⟩
  go_wp2_with fail
  refine (do_val (o' := 2) rfl rfl rfl (by decide) hd hy e7.out _).mono ?_; rintro e w8 ⟨rfl, h8⟩
  go_wp2_with fail
  refine (do_val (o' := 0) rfl rfl rfl (by decide) hm hr e8.out _).mono ?_; rintro e w9 ⟨rfl, h9⟩
  go_wp2_with fail
  refine (do_none _ _ _ _ _ ho).mono ?_; rintro e w10 ⟨rfl, h10⟩
  go_wp2_with fail
  refine (do_none _ _ _ _ _ ho).mono ?_; rintro e w11 ⟨rfl, h11⟩
  go_wp2_with fail
  go_ret
  exact ⟨rfl, below_then (below_then (below_then (below_then (below_then (below_then (below_then (below_then (below_then (below_then (h1) h2) h3) h4) h5) h6) h7) h8) h9) h10) h11⟩

set_option maxRecDepth 100000 in
set_option maxHeartbeats 1000000 in
theorem aluLaws_narrow_op (o : Nat) (x y s p d r m v : Nat) (w : World) (ho : o ≤ 12) (hx : x < 2 ^ 64) (hy : y < 2 ^ 64) (hd : d < 2 ^ 64) (hr : r < 2 ^ 64) (hm : m < 2 ^ 64)
    (e1 : Hid (doV 0 false x y = s)) (e2 : Hid (doV 0 false y x = s)) (e3 : Hid (doV 2 false x y = p)) (e4 : Hid (doV 2 false y x = p)) (e5 : Hid (doV 3 false x y = d)) (e6 : Hid (doV 9 false x y = r)) (e7 : Hid (doV 2 false d y = m)) (e8 : Hid (doV 0 false m r = x % 2 ^ 32))
    (e9 : Hid (doV o false x y = v)) (e10 : Hid (doV o false (x % 2 ^ 32) (y % 2 ^ 32) = v)) (hv : v < 4294967296) :
    Calls Try.prog 4 #[.int .i64 o, .bool false, .int .u64 x, .int .u64 y] w fun e w' => e = .returned (.bool true) ∧ Below w.heap.size w w' := by
  have hxm : x % 2 ^ 32 < 2 ^ 64 := Nat.lt_of_le_of_lt (Nat.mod_le _ _) hx
  have hym : y % 2 ^ 32 < 2 ^ 64 := Nat.lt_of_le_of_lt (Nat.mod_le _ _) hy
  go_enter Try.func4, Try.ntmps4
  go_wp2_with fail
  refine (known_any _).mono ?_; rintro e w1 ⟨rfl, h1⟩
  go_wp2_with fail
  refine (do_val (o' := 0) rfl rfl rfl (by decide) hx hy e1.out _).mono ?_; rintro e w2 ⟨rfl, h2⟩
  go_wp2_with fail
  refine (do_val (o' := 0) rfl rfl rfl (by decide) hy hx e2.out _).mono ?_; rintro e w3 ⟨rfl, h3⟩
  go_wp2_with fail
  refine (do_val (o' := 2) rfl rfl rfl (by decide) hx hy e3.out _).mono ?_; rintro e w4 ⟨rfl, h4⟩
  go_wp2_with fail
  refine (do_val (o' := 2) rfl rfl rfl (by decide) hy hx e4.out _).mono ?_; rintro e w5 ⟨rfl, h5⟩
  go_wp2_with fail
  refine (do_val (o' := 3) rfl rfl rfl (by decide) hx hy e5.out _).mono ?_; rintro e w6 ⟨rfl, h6⟩
  go_wp2_with fail
  refine (do_val (o' := 9) rfl rfl rfl (by decide) hx hy e6.out _).mono ?_; rintro e w7 ⟨rfl, h7⟩
  go_wp2_with fail
  refine (do_val (o' := 2) rfl rfl rfl (by decide) hd hy e7.out _).mono ?_; rintro e w8 ⟨rfl, h8⟩
  go_wp2_with fail
  refine (do_val (o' := 0) rfl rfl rfl (by decide) hm hr e8.out _).mono ?_; rintro e w9 ⟨rfl, h9⟩
  go_wp2_with fail
  refine (do_val rfl rfl rfl ho hx hy e9.out _).mono ?_; rintro e w10 ⟨rfl, h10⟩
  go_wp2_with fail
  refine (do_val (x' := x % 2 ^ 32) (y' := y % 2 ^ 32) rfl rfl rfl ho hxm hym e10.out _).mono ?_; rintro e w11 ⟨rfl, h11⟩
  go_wp2_with fail
  go_ret
  exact ⟨by simp; omega, below_then (below_then (below_then (below_then (below_then (below_then (below_then (below_then (below_then (below_then (h1) h2) h3) h4) h5) h6) h7) h8) h9) h10) h11⟩

set_option maxRecDepth 100000 in
set_option maxHeartbeats 1000000 in
theorem aluLaws_narrow_none (o : Int) (x y s p d r m : Nat) (w : World) (ho : o < 0 ∨ 12 < o) (hx : x < 2 ^ 64) (hy : y < 2 ^ 64) (hd : d < 2 ^ 64) (hr : r < 2 ^ 64) (hm : m < 2 ^ 64)
    (e1 : Hid (doV 0 false x y = s)) (e2 : Hid (doV 0 false y x = s)) (e3 : Hid (doV 2 false x y = p)) (e4 : Hid (doV 2 false y x = p)) (e5 : Hid (doV 3 false x y = d)) (e6 : Hid (doV 9 false x y = r)) (e7 : Hid (doV 2 false d y = m)) (e8 : Hid (doV 0 false m r = x % 2 ^ 32))
     :
    Calls Try.prog 4 #[.int .i64 o, .bool false, .int .u64 x, .int .u64 y] w fun e w' => e = .returned (.bool true) ∧ Below w.heap.size w w' := by
  have hxm : x % 2 ^ 32 < 2 ^ 64 := Nat.lt_of_le_of_lt (Nat.mod_le _ _) hx
  have hym : y % 2 ^ 32 < 2 ^ 64 := Nat.lt_of_le_of_lt (Nat.mod_le _ _) hy
  go_enter Try.func4, Try.ntmps4
  go_wp2_with fail
  refine (known_any _).mono ?_; rintro e w1 ⟨rfl, h1⟩
  go_wp2_with fail
  refine (do_val (o' := 0) rfl rfl rfl (by decide) hx hy e1.out _).mono ?_; rintro e w2 ⟨rfl, h2⟩
  go_wp2_with fail
  refine (do_val (o' := 0) rfl rfl rfl (by decide) hy hx e2.out _).mono ?_; rintro e w3 ⟨rfl, h3⟩
  go_wp2_with fail
  refine (do_val (o' := 2) rfl rfl rfl (by decide) hx hy e3.out _).mono ?_; rintro e w4 ⟨rfl, h4⟩
  go_wp2_with fail
  refine (do_val (o' := 2) rfl rfl rfl (by decide) hy hx e4.out _).mono ?_; rintro e w5 ⟨rfl, h5⟩
  go_wp2_with fail
  refine (do_val (o' := 3) rfl rfl rfl (by decide) hx hy e5.out _).mono ?_; rintro e w6 ⟨rfl, h6⟩
  go_wp2_with fail
  refine (do_val (o' := 9) rfl rfl rfl (by decide) hx hy e6.out _).mono ?_; rintro e w7 ⟨rfl, h7⟩
  go_wp2_with fail
  refine (do_val (o' := 2) rfl rfl rfl (by decide) hd hy e7.out _).mono ?_; rintro e w8 ⟨rfl, h8⟩
  go_wp2_with fail
  refine (do_val (o' := 0) rfl rfl rfl (by decide) hm hr e8.out _).mono ?_; rintro e w9 ⟨rfl, h9⟩
  go_wp2_with fail
  refine (do_none _ _ _ _ _ ho).mono ?_; rintro e w10 ⟨rfl, h10⟩
  go_wp2_with fail
  refine (do_none _ _ _ _ _ ho).mono ?_; rintro e w11 ⟨rfl, h11⟩
  go_wp2_with fail
  go_ret
  exact ⟨rfl, below_then (below_then (below_then (below_then (below_then (below_then (below_then (below_then (below_then (below_then (h1) h2) h3) h4) h5) h6) h7) h8) h9) h10) h11⟩

theorem aluLaws_walk (a0 : Int) (a1 : Bool) (a2 : Int) (a3 : Int) (w0 : (Lit.int .i64 a0).wf = true) (w2 : (Lit.int .u64 a2).wf = true) (w3 : (Lit.int .u64 a3).wf = true) (w : World) :
    Calls Try.prog 4 #[.int .i64 a0, .bool a1, .int .u64 a2, .int .u64 a3] w fun e w' => e = .returned (.bool true) ∧ Below w.heap.size w w' := by
  obtain ⟨x, rfl, hx⟩ := nat_of_u64 w2
  obtain ⟨y, rfl, hy⟩ := nat_of_u64 w3
  have hd : doV 3 a1 x y < 2 ^ 64 := doV_lt hx hy
  have hr : doV 9 a1 x y < 2 ^ 64 := doV_lt hx hy
  have hm : doV 2 a1 (doV 3 a1 x y) y < 2 ^ 64 := doV_lt hd hy
  by_cases h : a0 < 0 ∨ 12 < a0
  · cases a1 with
    | true => exact aluLaws_wide_none a0 x y _ _ _ _ _ w h hx hy hd hr hm rfl (do_comm_add _ _ _) rfl (do_comm_mul _ _ _) rfl rfl rfl (do_quot_wide hx)
    | false => exact aluLaws_narrow_none a0 x y _ _ _ _ _ w h hx hy hd hr hm rfl (do_comm_add _ _ _) rfl (do_comm_mul _ _ _) rfl rfl rfl (do_quot_narrow x y)
  · obtain ⟨o, rfl⟩ : ∃ o : Nat, a0 = o := ⟨a0.toNat, by omega⟩
    have hv : doV o false x y < 4294967296 := doV_narrow_lt
    cases a1 with
    | true => exact aluLaws_wide_op o x y _ _ _ _ _ _ w (by omega) hx hy hd hr hm rfl (do_comm_add _ _ _) rfl (do_comm_mul _ _ _) rfl rfl rfl (do_quot_wide hx) rfl doV_narrow_mod hv
    | false => exact aluLaws_narrow_op o x y _ _ _ _ _ _ w (by omega) hx hy hd hr hm rfl (do_comm_add _ _ _) rfl (do_comm_mul _ _ _) rfl rfl rfl (do_quot_narrow x y) rfl doV_narrow_mod hv
end Go.Proofs.Ytdpnhpennceldaa
