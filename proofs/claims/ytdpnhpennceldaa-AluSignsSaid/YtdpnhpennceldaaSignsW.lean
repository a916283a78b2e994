/-
  THE WALK of AluSigns: an arithmetic shift divides by a power of two, downwards; a number's contrary added to it is 0.
-/
import Derived.Test.YtdpnhpennceldaaKnown
namespace Go.Proofs.Ytdpnhpennceldaa
open Go.RowKit M
set_option linter.unusedVariables false
theorem wrap64_pow (k : Nat) (h : k < 63) : wrap64 (2 ^ k) = ((2 ^ k : Nat) : Int) := by
  have hp : 2 ^ k < 2 ^ 63 := Nat.pow_lt_pow_right (by decide) h
  rw [show ((2 : Int) ^ k) = ((2 ^ k : Nat) : Int) by simp]
  generalize 2 ^ k = q at *
  exact IntWalk.wrap64_in _ ⟨by omega, by omega⟩
theorem wrap64_u64 (z : Int) : wrap64 (IntKind.u64.wrap z) = wrap64 z := by
  rw [IntKind.wrap_u64]; unfold wrap64; omega
/-- what the program's shift makes, as a number with a sign, is what the division makes. -/
theorem ash_wrap (a : Int) (A k P : Nat) (hA : A < 2 ^ 64) (hw : wrap64 (A : Int) = a) (hk : k < 64) (hP : 2 ^ k = P) (V : Nat) (hV : doV 12 true A k = V) : wrap64 (V : Int) = wrap64 (a / (P : Int)) := by
  subst hV
  have h := c_ash64 A k hA
  rw [Nat.mod_eq_of_lt hk, hw] at h
  have e : doV 12 true A k = op 64 12 A k := rfl
  rw [e, ← h, wrap64_u64, ← hP]
  simp
theorem quot_down (a : Int) (P : Nat) (hP : 0 < P) (h0 : a < 0) (ht : (a.tmod (P : Int) != 0) = true) : a.tdiv (P : Int) - 1 = a / (P : Int) := by
  have hd : ¬ (0 ≤ a ∨ (P : Int) ∣ a) := by
    rintro (h | h)
    · omega
    · have := Int.tmod_eq_zero_of_dvd h
      simp [this] at ht
  rw [Int.tdiv_eq_ediv, if_neg hd, Int.sign_eq_one_of_pos (by omega)]
  omega
theorem quot_even (a : Int) (P : Nat) (ht : (a.tmod (P : Int) != 0) = false) : a.tdiv (P : Int) = a / (P : Int) := by
  have hd : (0 ≤ a ∨ (P : Int) ∣ a) := .inr (Int.dvd_of_tmod_eq_zero (by simpa using ht))
  rw [Int.tdiv_eq_ediv, if_pos hd]
  omega
theorem quot_fits (a : Int) (P : Nat) (hP : 0 < P) (h0 : a < 0) (hlo : -9223372036854775808 ≤ a) : wrap64 (a / (P : Int)) = a / (P : Int) := by
  have hp : (0 : Int) < (P : Int) := by omega
  have h1 : a * (P : Int) ≤ a * 1 := Int.mul_le_mul_of_nonpos_left (by omega) (by omega)
  have h2 : a ≤ a / (P : Int) := (Int.le_ediv_iff_mul_le hp).mpr (by omega)
  have h3 : a / (P : Int) < 1 := Int.ediv_lt_of_lt_mul hp (by omega)
  exact IntWalk.wrap64_in _ ⟨by omega, by omega⟩
set_option maxRecDepth 100000 in
set_option maxHeartbeats 1000000 in
theorem aluSigns_pos (n x V M P : Nat) (w : World) (hn : n < 256) (hx : x < 2 ^ 63) (hA : x < 2 ^ 64) (hM : M < 2 ^ 64) (hp : Hid (2 ^ (n % 63) = P)) (hP : 0 < P)
    (hv : Hid (wrap64 (V : Int) = wrap64 ((x : Int) / (P : Int))))
    (e1 : Hid (doV 12 true x (n % 63) = V)) (e2 : Hid (doV 8 true x 0 = M)) (e3 : Hid (doV 0 true x M = 0)) :
    Calls Try.prog 6 #[.int .i64 x, .int .u8 n] w fun e w' => e = .returned (.bool true) ∧ Below w.heap.size w w' := by
  go_enter Try.func6, Try.ntmps6
  go_wp2_with fail
  refine (known_any _).mono ?_; rintro e w1 ⟨rfl, h1⟩
  go_wp2_with fail
  refine (do_val (o' := 12) (y' := n % 63) rfl rfl rfl (by decide) hA (by omega) e1.out _).mono ?_; rintro e w2 ⟨rfl, h2⟩
  have wp : wrap64 (2 ^ (n % 63)) = (P : Int) := by rw [wrap64_pow _ (by omega)]; exact congrArg _ hp.out
  go_wp2_with fail
  refine (do_val (o' := 8) (y' := 0) rfl rfl rfl (by decide) hA (by omega) e2.out _).mono ?_; rintro e w3 ⟨rfl, h3⟩
  go_wp2_with fail
  refine (do_val (o' := 0) rfl rfl rfl (by decide) hA hM e3.out _).mono ?_; rintro e w4 ⟨rfl, h4⟩
  have hvI := hv.out
  go_wp2_with fail
  go_ret
  exact ⟨rfl, below_then (below_then (below_then h1 h2) h3) h4⟩
set_option maxRecDepth 100000 in
set_option maxHeartbeats 1000000 in
theorem aluSigns_down (a : Int) (n : Nat) (A V M P : Nat) (w : World) (hn : n < 256) (hlo : -9223372036854775808 ≤ a) (hhi : a ≤ 9223372036854775807) (h0 : a < 0) (hA : A < 2 ^ 64) (hM : M < 2 ^ 64)
    (hw : Hid (IntKind.u64.wrap a = (A : Int))) (hp : Hid (2 ^ (n % 63) = P)) (hP : 0 < P)
    (ht : (a.tmod (P : Int) != 0) = true) (hv : Hid (wrap64 (V : Int) = wrap64 (a.tdiv (P : Int) - 1)))
    (e1 : Hid (doV 12 true A (n % 63) = V)) (e2 : Hid (doV 8 true A 0 = M)) (e3 : Hid (doV 0 true A M = 0)) :
    Calls Try.prog 6 #[.int .i64 a, .int .u8 n] w fun e w' => e = .returned (.bool true) ∧ Below w.heap.size w w' := by
  go_enter Try.func6, Try.ntmps6
  go_wp2_with fail
  refine (known_any _).mono ?_; rintro e w1 ⟨rfl, h1⟩
  go_wp2_with fail
  refine (do_val (o' := 12) (y' := n % 63) rfl hw.out rfl (by decide) hA (by omega) e1.out _).mono ?_; rintro e w2 ⟨rfl, h2⟩
  have wp : wrap64 (2 ^ (n % 63)) = (P : Int) := by rw [wrap64_pow _ (by omega)]; exact congrArg _ hp.out
  go_wp2_with fail
  refine (do_val (o' := 8) (y' := 0) rfl hw.out rfl (by decide) hA (by omega) e2.out _).mono ?_; rintro e w3 ⟨rfl, h3⟩
  go_wp2_with fail
  refine (do_val (o' := 0) rfl hw.out rfl (by decide) hA hM e3.out _).mono ?_; rintro e w4 ⟨rfl, h4⟩
  have hvI := hv.out
  go_wp2_with fail
  go_ret
  exact ⟨rfl, below_then (below_then (below_then h1 h2) h3) h4⟩
set_option maxRecDepth 100000 in
set_option maxHeartbeats 1000000 in
theorem aluSigns_even (a : Int) (n : Nat) (A V M P : Nat) (w : World) (hn : n < 256) (hlo : -9223372036854775808 ≤ a) (hhi : a ≤ 9223372036854775807) (h0 : a < 0) (hA : A < 2 ^ 64) (hM : M < 2 ^ 64)
    (hw : Hid (IntKind.u64.wrap a = (A : Int))) (hp : Hid (2 ^ (n % 63) = P)) (hP : 0 < P)
    (ht : (a.tmod (P : Int) != 0) = false) (hv : Hid (wrap64 (V : Int) = a.tdiv (P : Int)))
    (e1 : Hid (doV 12 true A (n % 63) = V)) (e2 : Hid (doV 8 true A 0 = M)) (e3 : Hid (doV 0 true A M = 0)) :
    Calls Try.prog 6 #[.int .i64 a, .int .u8 n] w fun e w' => e = .returned (.bool true) ∧ Below w.heap.size w w' := by
  go_enter Try.func6, Try.ntmps6
  go_wp2_with fail
  refine (known_any _).mono ?_; rintro e w1 ⟨rfl, h1⟩
  go_wp2_with fail
  refine (do_val (o' := 12) (y' := n % 63) rfl hw.out rfl (by decide) hA (by omega) e1.out _).mono ?_; rintro e w2 ⟨rfl, h2⟩
  have wp : wrap64 (2 ^ (n % 63)) = (P : Int) := by rw [wrap64_pow _ (by omega)]; exact congrArg _ hp.out
  go_wp2_with fail
  refine (do_val (o' := 8) (y' := 0) rfl hw.out rfl (by decide) hA (by omega) e2.out _).mono ?_; rintro e w3 ⟨rfl, h3⟩
  go_wp2_with fail
  refine (do_val (o' := 0) rfl hw.out rfl (by decide) hA hM e3.out _).mono ?_; rintro e w4 ⟨rfl, h4⟩
  have hvI := hv.out
  go_wp2_with fail
  go_ret
  exact ⟨rfl, below_then (below_then (below_then h1 h2) h3) h4⟩

theorem neg_add (A : Nat) (hA : A < 2 ^ 64) : doV 0 true A (doV 8 true A 0) = 0 := by
  simp only [doV, op, if_true]; omega

theorem aluSigns_walk (a0 : Int) (a1 : Int) (w0 : (Lit.int .i64 a0).wf = true) (w1 : (Lit.int .u8 a1).wf = true) (w : World) :
    Calls Try.prog 6 #[.int .i64 a0, .int .u8 a1] w fun e w' => e = .returned (.bool true) ∧ Below w.heap.size w w' := by
  have b0 := bounds_i64 w0
  have b1 := bounds_u8 w1
  obtain ⟨n, rfl⟩ : ∃ n : Nat, a1 = n := ⟨a1.toNat, by omega⟩
  have hn : n < 256 := by omega
  by_cases h : a0 < 0
  · obtain ⟨A, eA⟩ : ∃ A : Nat, A = (a0 % 18446744073709551616).toNat := ⟨_, rfl⟩
    have hA : A < 2 ^ 64 := by omega
    have hw : IntKind.u64.wrap a0 = (A : Int) := by rw [IntKind.wrap_u64]; omega
    have hs : wrap64 (A : Int) = a0 := by rw [← hw, wrap64_u64]; exact IntWalk.wrap64_in _ ⟨by omega, by omega⟩
    have hv := ash_wrap a0 A (n % 63) _ hA hs (by omega) rfl _ rfl
    cases ht : (a0.tmod ((2 ^ (n % 63) : Nat) : Int) != 0) with
    | true =>
      rw [← quot_down a0 _ (pow_pos _) h ht] at hv
      exact aluSigns_down a0 n A _ _ _ w hn b0.1 b0.2 h hA (doV_lt hA (by decide)) hw rfl (pow_pos _) ht hv rfl rfl (neg_add A hA)
    | false =>
      rw [quot_fits a0 _ (pow_pos _) h b0.1, ← quot_even a0 _ ht] at hv
      exact aluSigns_even a0 n A _ _ _ w hn b0.1 b0.2 h hA (doV_lt hA (by decide)) hw rfl (pow_pos _) ht hv rfl rfl (neg_add A hA)
  · obtain ⟨x, rfl⟩ : ∃ x : Nat, a0 = x := ⟨a0.toNat, by omega⟩
    have hA : x < 2 ^ 64 := by omega
    have hs : wrap64 (x : Int) = (x : Int) := IntWalk.wrap64_in _ ⟨by omega, by omega⟩
    exact aluSigns_pos n x _ _ _ w hn (by omega) hA (doV_lt hA (by decide)) rfl (pow_pos _) (ash_wrap _ x (n % 63) _ hA hs (by omega) rfl _ rfl) rfl rfl (neg_add x hA)
end Go.Proofs.Ytdpnhpennceldaa
