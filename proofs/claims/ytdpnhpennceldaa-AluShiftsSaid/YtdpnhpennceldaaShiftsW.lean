/-
  THE WALK of AluShifts: shifted there and back a number has lost just the bits that went; a shift by more is one by what is left of the division by 64 or 32.
-/
import Derived.Test.YtdpnhpennceldaaKnown
namespace Go.Proofs.Ytdpnhpennceldaa
open Go.RowKit M
set_option linter.unusedVariables false
theorem wrap_more (y c : Nat) : IntKind.u64.wrap ((y : Int) + (c : Int)) = (((y + c) % 2 ^ 64 : Nat) : Int) := by
  rw [← Int.natCast_add, wrapN]
theorem wrap_pow (k : Nat) (h : k < 64) : IntKind.u64.wrap (2 ^ k) = ((2 ^ k : Nat) : Int) := by
  rw [show ((2 : Int) ^ k) = ((2 ^ k : Nat) : Int) by simp, wrapN, Nat.mod_eq_of_lt (Nat.pow_lt_pow_right (by decide) h)]
theorem wrap_diff (l K : Nat) (h : l < 2 ^ 64) : IntKind.u64.wrap ((l : Int) - (l : Int) % (K : Int)) = ((l - l % K : Nat) : Int) := by
  have hle : l % K ≤ l := Nat.mod_le _ _
  rw [show (l : Int) - (l : Int) % (K : Int) = ((l - l % K : Nat) : Int) by omega, wrapN, Nat.mod_eq_of_lt (by omega)]

set_option maxRecDepth 100000 in
set_option maxHeartbeats 1000000 in
theorem aluShifts_widez (x y l b r a K Q : Nat) (w : World) (hx : x < 2 ^ 64) (hy : y < 2 ^ 64) (hl : l < 2 ^ 64) (hr : r < 2 ^ 64) (hk : y % 64 ≤ 0)
    (e1 : Hid (doV 6 true x y = l)) (e2 : Hid (doV 7 true l y = b)) (e3 : Hid (doV 7 true x y = r)) (e4 : Hid (doV 6 true r y = a)) (e5 : Hid (doV 6 true x ((y + 192) % 2 ^ 64) = l))
    (hkk : Hid (2 ^ (y % 64) = K)) (hK : 0 < K)  (hb : Hid (b = x)) (ha : Hid (a = x - x % K)) :
    Calls Try.prog 5 #[.bool true, .int .u64 x, .int .u64 y] w fun e w' => e = .returned (.bool true) ∧ Below w.heap.size w w' := by
  have hmore := wrap_more y 192
  have hM := Lib.hid hmore
  clear hmore
  go_enter Try.func5, Try.ntmps5
  go_wp2_with fail
  refine (known_any _).mono ?_; rintro e w1 ⟨rfl, h1⟩
  go_wp2_with fail
  refine (do_val (o' := 6) rfl rfl rfl (by decide) hx hy e1.out _).mono ?_; rintro e w2 ⟨rfl, h2⟩
  go_wp2_with fail
  refine (do_val (o' := 7) rfl rfl rfl (by decide) hl hy e2.out _).mono ?_; rintro e w3 ⟨rfl, h3⟩
  go_wp2_with fail
  refine (do_val (o' := 7) rfl rfl rfl (by decide) hx hy e3.out _).mono ?_; rintro e w4 ⟨rfl, h4⟩
  go_wp2_with fail
  refine (do_val (o' := 6) rfl rfl rfl (by decide) hr hy e4.out _).mono ?_; rintro e w5 ⟨rfl, h5⟩
  go_wp2_with fail
  refine (do_val (o' := 6) rfl rfl hM.out (by decide) hx (Nat.mod_lt _ (by decide)) e5.out _).mono ?_; rintro e w6 ⟨rfl, h6⟩
  have wk : IntKind.u64.wrap (2 ^ (y % 64)) = (K : Int) := by rw [wrap_pow _ (by omega)]; exact congrArg _ hkk.out
  have hbI : (b : Int) = (x : Int) := congrArg _ hb.out
  have haI : (a : Int) = IntKind.u64.wrap ((x : Int) - (x : Int) % (K : Int)) := by
    rw [show (x : Int) = ((x : Nat) : Int) from rfl, wrap_diff _ _ (by omega)]; exact congrArg _ ha.out
  go_wp2_with fail
  go_ret
  exact ⟨rfl, below_then (below_then (below_then (below_then (below_then h1 h2) h3) h4) h5) h6⟩

set_option maxRecDepth 100000 in
set_option maxHeartbeats 1000000 in
theorem aluShifts_widep (x y l b r a K Q : Nat) (w : World) (hx : x < 2 ^ 64) (hy : y < 2 ^ 64) (hl : l < 2 ^ 64) (hr : r < 2 ^ 64) (hk : 0 < y % 64)
    (e1 : Hid (doV 6 true x y = l)) (e2 : Hid (doV 7 true l y = b)) (e3 : Hid (doV 7 true x y = r)) (e4 : Hid (doV 6 true r y = a)) (e5 : Hid (doV 6 true x ((y + 192) % 2 ^ 64) = l))
    (hkk : Hid (2 ^ (y % 64) = K)) (hK : 0 < K) (hq : Hid (2 ^ (64 - y % 64) = Q)) (hQ : 0 < Q) (hb : Hid (b = x % Q)) (ha : Hid (a = x - x % K)) :
    Calls Try.prog 5 #[.bool true, .int .u64 x, .int .u64 y] w fun e w' => e = .returned (.bool true) ∧ Below w.heap.size w w' := by
  have hmore := wrap_more y 192
  have hM := Lib.hid hmore
  clear hmore
  go_enter Try.func5, Try.ntmps5
  go_wp2_with fail
  refine (known_any _).mono ?_; rintro e w1 ⟨rfl, h1⟩
  go_wp2_with fail
  refine (do_val (o' := 6) rfl rfl rfl (by decide) hx hy e1.out _).mono ?_; rintro e w2 ⟨rfl, h2⟩
  go_wp2_with fail
  refine (do_val (o' := 7) rfl rfl rfl (by decide) hl hy e2.out _).mono ?_; rintro e w3 ⟨rfl, h3⟩
  go_wp2_with fail
  refine (do_val (o' := 7) rfl rfl rfl (by decide) hx hy e3.out _).mono ?_; rintro e w4 ⟨rfl, h4⟩
  go_wp2_with fail
  refine (do_val (o' := 6) rfl rfl rfl (by decide) hr hy e4.out _).mono ?_; rintro e w5 ⟨rfl, h5⟩
  go_wp2_with fail
  refine (do_val (o' := 6) rfl rfl hM.out (by decide) hx (Nat.mod_lt _ (by decide)) e5.out _).mono ?_; rintro e w6 ⟨rfl, h6⟩
  have wk : IntKind.u64.wrap (2 ^ (y % 64)) = (K : Int) := by rw [wrap_pow _ (by omega)]; exact congrArg _ hkk.out
  have wq : IntKind.u64.wrap (2 ^ (64 - y % 64)) = (Q : Int) := by rw [wrap_pow _ (by omega)]; exact congrArg _ hq.out
  have hbI : (b : Int) = (x : Int) % (Q : Int) := by have := congrArg (fun z : Nat => (z : Int)) hb.out; simpa using this
  have haI : (a : Int) = IntKind.u64.wrap ((x : Int) - (x : Int) % (K : Int)) := by
    rw [show (x : Int) = ((x : Nat) : Int) from rfl, wrap_diff _ _ (by omega)]; exact congrArg _ ha.out
  go_wp2_with fail
  go_ret
  exact ⟨rfl, below_then (below_then (below_then (below_then (below_then h1 h2) h3) h4) h5) h6⟩

set_option maxRecDepth 100000 in
set_option maxHeartbeats 1000000 in
theorem aluShifts_narrow (x y l b r a K Q : Nat) (w : World) (hx : x < 2 ^ 64) (hy : y < 2 ^ 64) (hl : l < 2 ^ 64) (hr : r < 2 ^ 64) 
    (e1 : Hid (doV 6 false x y = l)) (e2 : Hid (doV 7 false l y = b)) (e3 : Hid (doV 7 false x y = r)) (e4 : Hid (doV 6 false r y = a)) (e5 : Hid (doV 6 false x ((y + 96) % 2 ^ 64) = l))
    (hkk : Hid (2 ^ (y % 32) = K)) (hK : 0 < K) (hq : Hid (2 ^ (32 - y % 32) = Q)) (hQ : 0 < Q) (hb : Hid (b = x % 2 ^ 32 % Q)) (ha : Hid (a = x % 2 ^ 32 - x % 2 ^ 32 % K)) :
    Calls Try.prog 5 #[.bool false, .int .u64 x, .int .u64 y] w fun e w' => e = .returned (.bool true) ∧ Below w.heap.size w w' := by
  have hmore := wrap_more y 96
  have hM := Lib.hid hmore
  clear hmore
  go_enter Try.func5, Try.ntmps5
  go_wp2_with fail
  refine (known_any _).mono ?_; rintro e w1 ⟨rfl, h1⟩
  go_wp2_with fail
  refine (do_val (o' := 6) rfl rfl rfl (by decide) hx hy e1.out _).mono ?_; rintro e w2 ⟨rfl, h2⟩
  go_wp2_with fail
  refine (do_val (o' := 7) rfl rfl rfl (by decide) hl hy e2.out _).mono ?_; rintro e w3 ⟨rfl, h3⟩
  go_wp2_with fail
  refine (do_val (o' := 7) rfl rfl rfl (by decide) hx hy e3.out _).mono ?_; rintro e w4 ⟨rfl, h4⟩
  go_wp2_with fail
  refine (do_val (o' := 6) rfl rfl rfl (by decide) hr hy e4.out _).mono ?_; rintro e w5 ⟨rfl, h5⟩
  go_wp2_with fail
  refine (do_val (o' := 6) rfl rfl hM.out (by decide) hx (Nat.mod_lt _ (by decide)) e5.out _).mono ?_; rintro e w6 ⟨rfl, h6⟩
  have wk : IntKind.u64.wrap (2 ^ (y % 32)) = (K : Int) := by rw [wrap_pow _ (by omega)]; exact congrArg _ hkk.out
  have wq : IntKind.u64.wrap (2 ^ (32 - y % 32)) = (Q : Int) := by rw [wrap_pow _ (by omega)]; exact congrArg _ hq.out
  have hbI : (b : Int) = (x : Int) % 4294967296 % (Q : Int) := by have := congrArg (fun z : Nat => (z : Int)) hb.out; simpa using this
  have haI : (a : Int) = IntKind.u64.wrap ((x : Int) % 4294967296 - (x : Int) % 4294967296 % (K : Int)) := by
    rw [show (x : Int) % 4294967296 = ((x % 2 ^ 32 : Nat) : Int) from rfl, wrap_diff _ _ (by omega)]; exact congrArg _ ha.out
  go_wp2_with fail
  go_ret
  exact ⟨rfl, below_then (below_then (below_then (below_then (below_then h1 h2) h3) h4) h5) h6⟩

theorem more_mod64 (y : Nat) : (y + 192) % 2 ^ 64 % 64 = y % 64 := by omega
theorem more_mod32 (y : Nat) : (y + 96) % 2 ^ 64 % 2 ^ 32 % 32 = y % 2 ^ 32 % 32 := by omega
theorem mod32_32 (y : Nat) : y % 2 ^ 32 % 32 = y % 32 := by omega

theorem aluShifts_walk (a0 : Bool) (a1 : Int) (a2 : Int) (w1 : (Lit.int .u64 a1).wf = true) (w2 : (Lit.int .u64 a2).wf = true) (w : World) :
    Calls Try.prog 5 #[.bool a0, .int .u64 a1, .int .u64 a2] w fun e w' => e = .returned (.bool true) ∧ Below w.heap.size w w' := by
  obtain ⟨x, rfl, hx⟩ := nat_of_u64 w1
  obtain ⟨y, rfl, hy⟩ := nat_of_u64 w2
  have hl : doV 6 a0 x y < 2 ^ 64 := doV_lt hx hy
  have hr : doV 7 a0 x y < 2 ^ 64 := doV_lt hx hy
  cases a0 with
  | true =>
    have e5 : doV 6 true x ((y + 192) % 2 ^ 64) = doV 6 true x y := by
      simp only [doV, op, if_true]; rw [more_mod64]
    have ha : doV 6 true (doV 7 true x y) y = x - x % 2 ^ (y % 64) := by
      simp only [doV, op, if_true]; exact back_there hx
    have hb : doV 7 true (doV 6 true x y) y = x % 2 ^ (64 - y % 64) := by
      simp only [doV, op, if_true]; exact there_back (Nat.mod_lt _ (by decide))
    rcases Nat.eq_zero_or_pos (y % 64) with h | h
    · have hb' : doV 7 true (doV 6 true x y) y = x := by
        rw [hb, h]; exact Nat.mod_eq_of_lt hx
      exact aluShifts_widez x y _ _ _ _ _ 0 w hx hy hl hr (by omega) rfl rfl rfl rfl e5 rfl (pow_pos _) hb' ha
    · exact aluShifts_widep x y _ _ _ _ _ _ w hx hy hl hr h rfl rfl rfl rfl e5 rfl (pow_pos _) rfl (pow_pos _) hb ha
  | false =>
    have hm := Nat.mod_lt x (pow_pos 32)
    have e5 : doV 6 false x ((y + 96) % 2 ^ 64) = doV 6 false x y := by
      simp only [doV, op, Bool.false_eq_true, if_false]; rw [more_mod32]
    have h7 : x % 2 ^ 32 / 2 ^ (y % 32) % 2 ^ 32 = x % 2 ^ 32 / 2 ^ (y % 32) := Nat.mod_eq_of_lt (Nat.lt_of_le_of_lt (Nat.div_le_self _ _) hm)
    have ha : doV 6 false (doV 7 false x y) y = x % 2 ^ 32 - x % 2 ^ 32 % 2 ^ (y % 32) := by
      simp only [doV, op, Bool.false_eq_true, if_false]; rw [mod32_32, h7]; exact back_there hm
    have hb : doV 7 false (doV 6 false x y) y = x % 2 ^ 32 % 2 ^ (32 - y % 32) := by
      simp only [doV, op, Bool.false_eq_true, if_false]; rw [mod32_32, Nat.mod_mod]; exact there_back (Nat.mod_lt _ (by decide))
    exact aluShifts_narrow x y _ _ _ _ _ _ w hx hy hl hr rfl rfl rfl rfl e5 rfl (pow_pos _) rfl (pow_pos _) hb ha
end Go.Proofs.Ytdpnhpennceldaa
