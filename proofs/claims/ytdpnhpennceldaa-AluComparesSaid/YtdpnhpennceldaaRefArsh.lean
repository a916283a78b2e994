/-
  THE WALK of the reference's Do at the arithmetic shift: the sign's bit is copied in one by one.
-/
import Derived.Test.YtdpnhpennceldaaRefDo
namespace Go.Proofs.Ytdpnhpennceldaa
open Go.RowKit M
set_option linter.unusedVariables false
def vk (n m a k : Nat) : Nat := 2 ^ n - 2 ^ (n - k) + a / 2 ^ m
theorem vk_q {n m a : Nat} (hm : m < n) (ha : a < 2 ^ n) : a / 2 ^ m < 2 ^ (n - m) := by
  have e3 : 2 ^ n = 2 ^ m * 2 ^ (n - m) := by rw [← Nat.pow_add]; congr 1; omega
  rw [Nat.div_lt_iff_lt_mul (pow_pos _), Nat.mul_comm, ← e3]; exact ha
theorem vk_round {n m a k : Nat} (hk : k < m) (hm : m < n) (ha : a < 2 ^ n) : vk n m a k ||| 2 ^ (n - 1 - k) = vk n m a (k + 1) :=
  arsh_round hk hm (vk_q hm ha)
theorem vk_lt {n m a k : Nat} (hk : k ≤ m) (hm : m < n) (ha : a < 2 ^ n) : vk n m a k < 2 ^ n := by
  have h1 := vk_q hm ha
  have h2 : 2 ^ (n - m) ≤ 2 ^ (n - k) := Nat.pow_le_pow_right (by decide) (by omega)
  have h3 : 2 ^ (n - k) ≤ 2 ^ n := Nat.pow_le_pow_right (by decide) (by omega)
  unfold vk
  generalize a / 2 ^ m = q at *
  omega
theorem vk_zero (n m a : Nat) : vk n m a 0 = a / 2 ^ m := by simp [vk]
theorem vk_end {n m a : Nat} (hm : m < n) (ha : a < 2 ^ n) (hs : ¬ a < 2 ^ (n - 1)) : vk n m a m = ash n a m := arsh_end hm ha hs
theorem or_round64 (x m k : Nat) (hk : k < m) (hm : m < 64) (ha : x < 2 ^ 64) :
    bits BinOp.or IntKind.u64 ((vk 64 m x k : Nat) : Int) (IntKind.u64.wrap (2 ^ (63 - k))) = ((vk 64 m x (k + 1) : Nat) : Int) := by
  have hp : 2 ^ (63 - k) < 2 ^ 64 := Nat.pow_lt_pow_right (by decide) (by omega)
  rw [show ((2 : Int) ^ (63 - k)) = ((2 ^ (63 - k) : Nat) : Int) by simp, wrapN, Nat.mod_eq_of_lt hp, u64_or_nat _ _ (vk_lt (by omega) hm ha) hp]
  exact congrArg _ (vk_round hk hm ha)
theorem or_round32 (x m k : Nat) (hk : k < m) (hm : m < 32) (ha : x < 2 ^ 32) :
    bits BinOp.or IntKind.u64 ((vk 32 m x k : Nat) : Int) (IntKind.u64.wrap (2 ^ (31 - k))) = ((vk 32 m x (k + 1) : Nat) : Int) := by
  have hp : 2 ^ (31 - k) < 2 ^ 32 := Nat.pow_lt_pow_right (by decide) (by omega)
  have hv := vk_lt (k := k) (by omega) hm ha
  have h64 : (2 : Nat) ^ 32 < 2 ^ 64 := by decide
  rw [show ((2 : Int) ^ (31 - k)) = ((2 ^ (31 - k) : Nat) : Int) by simp, wrapN, Nat.mod_eq_of_lt (Nat.lt_trans hp h64), u64_or_nat _ _ (Nat.lt_trans hv h64) (Nat.lt_trans hp h64)]
  exact congrArg _ (vk_round hk hm ha)
theorem c_shr (n x m : Nat) : Value.int .u64 ((x : Int) / 2 ^ m) = .int .u64 ((vk n m x 0 : Nat) : Int) := by rw [vk_zero]; simp

theorem ash_small {n a k : Nat} (h : a < 2 ^ (n - 1)) : a / 2 ^ k = ash n a k := by unfold ash; rw [if_pos h]

theorem c_ash64n (x y : Nat) (h : x < 2 ^ (64 - 1)) : (x : Int) / 2 ^ (y % 64) = ((op 64 12 x y : Nat) : Int) := by
  simp only [op]
  rw [← ash_small h]; simp
theorem c_ash32n (x y : Nat) (h : x < 2 ^ (32 - 1)) : (x : Int) / 2 ^ (y % 32) = ((mid 12 x y : Nat) : Int) := by
  simp only [mid]
  rw [← ash_small h]; simp

set_option maxRecDepth 100000 in
set_option maxHeartbeats 400000 in
theorem ref_12_64n (x y : Nat) (w : World) (hx : x < 2 ^ 64) (hy : y < 2 ^ 64) (hn : x < 2 ^ 63) :
    Calls Try.prog 12 #[.int .i64 12, .bool true, .int .u64 x, .int .u64 y] w fun e w' => e = .returned (.tuple #[.int .u64 (doV 12 true x y : Nat), .bool true]) ∧ w = w' := by
  go_enter Try.func12, Try.ntmps12
  go_wp2_with fail
  refine (cut_wide (r := x) rfl _).mono ?_; rintro e w' ⟨rfl, rfl⟩
  go_wp2_with fail
  refine (cut_wide (r := y) rfl _).mono ?_; rintro e w' ⟨rfl, rfl⟩
  go_wp2_with fail
  refine (cut_wide (c_ash64n x y hn) _).mono ?_; rintro e w' ⟨rfl, rfl⟩
  go_wp2_with fail
  go_ret2
  exact ⟨rfl, rfl⟩
set_option maxRecDepth 100000 in
set_option maxHeartbeats 400000 in
theorem ref_12_32n (x y a b : Nat) (w : World) (ha : a < 2 ^ 32) (hb : b < 2 ^ 32) (hxa : Hid (x % 2 ^ 32 = a)) (hyb : Hid (y % 2 ^ 32 = b)) (hn : a < 2 ^ 31) :
    Calls Try.prog 12 #[.int .i64 12, .bool false, .int .u64 x, .int .u64 y] w fun e w' => e = .returned (.tuple #[.int .u64 (op 32 12 a b : Nat), .bool true]) ∧ w = w' := by
  go_enter Try.func12, Try.ntmps12
  go_wp2_with fail
  refine (cut_narrow rfl hxa.out _).mono ?_; rintro e w' ⟨rfl, rfl⟩
  go_wp2_with fail
  refine (cut_narrow rfl hyb.out _).mono ?_; rintro e w' ⟨rfl, rfl⟩
  go_wp2_with fail
  refine (cut_narrow (c_ash32n a b hn) (mid_mod (o := 12) (by decide) ha hb) _).mono ?_; rintro e w' ⟨rfl, rfl⟩
  go_wp2_with fail
  go_ret2
  exact ⟨rfl, rfl⟩
theorem end64 {x y k : Nat} (hk : k ≤ y % 64) (h : ¬ k < y % 64) (hx : x < 2 ^ 64) (hn : 2 ^ 63 ≤ x) : ((vk 64 (y % 64) x k : Nat) : Int) = ((op 64 12 x y : Nat) : Int) := by
  have : k = y % 64 := by omega
  rw [this, vk_end (Nat.mod_lt _ (by decide)) hx (Nat.not_lt.mpr hn)]; rfl
theorem end32 {a b k : Nat} (hk : k ≤ b % 32) (h : ¬ k < b % 32) (ha : a < 2 ^ 32) (hn : 2 ^ 31 ≤ a) : ((vk 32 (b % 32) a k : Nat) : Int) = ((mid 12 a b : Nat) : Int) := by
  have : k = b % 32 := by omega
  rw [this, vk_end (Nat.mod_lt _ (by decide)) ha (Nat.not_lt.mpr hn)]; rfl
set_option maxRecDepth 100000 in
set_option maxHeartbeats 400000 in
theorem ref_12_64s (x y : Nat) (w : World) (hx : x < 2 ^ 64) (hy : y < 2 ^ 64) (hn : 2 ^ 63 ≤ x) :
    Calls Try.prog 12 #[.int .i64 12, .bool true, .int .u64 x, .int .u64 y] w fun e w' => e = .returned (.tuple #[.int .u64 (doV 12 true x y : Nat), .bool true]) ∧ w = w' := by
  go_enter Try.func12, Try.ntmps12
  go_wp2_with fail
  refine (cut_wide (r := x) rfl _).mono ?_; rintro e w' ⟨rfl, rfl⟩
  go_wp2_with fail
  refine (cut_wide (r := y) rfl _).mono ?_; rintro e w' ⟨rfl, rfl⟩
  go_wp2_with fail
  go_loop [12, 13] (fun v i => ∃ k : Nat, k ≤ y % 64 ∧ i = .int .u64 k ∧ v = .int .u64 (vk 64 (y % 64) x k : Nat)) (fun _ i => 64 - (intOf i).toNat)
  case atStart => exact ⟨0, Nat.zero_le _, rfl, c_shr 64 x (y % 64)⟩
  case round =>
    obtain ⟨k, hk, rfl, rfl⟩ := hrel
    have hm : y % 64 < 64 := Nat.mod_lt _ (by decide)
    by_cases hlt : k < y % 64
    · go_wp2_with fail
      go_round
      case rel => exact ⟨k + 1, by omega, by go_num, congrArg _ (or_round64 x (y % 64) k hlt hm hx)⟩
      case measure => simp [intOf]; omega
    · go_wp2_with fail
      refine (cut_wide (end64 hk hlt hx hn) _).mono ?_; rintro e w' ⟨rfl, rfl⟩
      go_wp2_with fail
      go_ret2
      exact ⟨rfl, rfl⟩
set_option maxRecDepth 100000 in
set_option maxHeartbeats 400000 in
theorem ref_12_32s (x y a b : Nat) (w : World) (ha : a < 2 ^ 32) (hb : b < 2 ^ 32) (hxa : Hid (x % 2 ^ 32 = a)) (hyb : Hid (y % 2 ^ 32 = b)) (hn : 2 ^ 31 ≤ a) :
    Calls Try.prog 12 #[.int .i64 12, .bool false, .int .u64 x, .int .u64 y] w fun e w' => e = .returned (.tuple #[.int .u64 (op 32 12 a b : Nat), .bool true]) ∧ w = w' := by
  go_enter Try.func12, Try.ntmps12
  go_wp2_with fail
  refine (cut_narrow rfl hxa.out _).mono ?_; rintro e w' ⟨rfl, rfl⟩
  go_wp2_with fail
  refine (cut_narrow rfl hyb.out _).mono ?_; rintro e w' ⟨rfl, rfl⟩
  go_wp2_with fail
  go_loop [12, 13] (fun v i => ∃ k : Nat, k ≤ b % 32 ∧ i = .int .u64 k ∧ v = .int .u64 (vk 32 (b % 32) a k : Nat)) (fun _ i => 32 - (intOf i).toNat)
  case atStart => exact ⟨0, Nat.zero_le _, rfl, c_shr 32 a (b % 32)⟩
  case round =>
    obtain ⟨k, hk, rfl, rfl⟩ := hrel
    have hm : b % 32 < 32 := Nat.mod_lt _ (by decide)
    by_cases hlt : k < b % 32
    · go_wp2_with fail
      go_round
      case rel => exact ⟨k + 1, by omega, by go_num, congrArg _ (or_round32 a (b % 32) k hlt hm ha)⟩
      case measure => simp [intOf]; omega
    · go_wp2_with fail
      refine (cut_narrow (end32 hk hlt ha hn) (mid_mod (o := 12) (by decide) ha hb) _).mono ?_; rintro e w' ⟨rfl, rfl⟩
      go_wp2_with fail
      go_ret2
      exact ⟨rfl, rfl⟩
set_option maxRecDepth 100000 in
set_option maxHeartbeats 400000 in
theorem ref_none (o : Int) (b : Bool) (x y : Nat) (w : World) (ho : o < 0 ∨ 12 < o) :
    Calls Try.prog 12 #[.int .i64 o, .bool b, .int .u64 x, .int .u64 y] w fun e w' => e = .returned (.tuple #[.int .u64 0, .bool false]) ∧ w = w' := by
  have h0 : (o == 0) = false := by simp; omega
  have h1 : (o == 1) = false := by simp; omega
  have h2 : (o == 2) = false := by simp; omega
  have h3 : (o == 3) = false := by simp; omega
  have h4 : (o == 4) = false := by simp; omega
  have h5 : (o == 5) = false := by simp; omega
  have h6 : (o == 6) = false := by simp; omega
  have h7 : (o == 7) = false := by simp; omega
  have h8 : (o == 8) = false := by simp; omega
  have h9 : (o == 9) = false := by simp; omega
  have h10 : (o == 10) = false := by simp; omega
  have h11 : (o == 11) = false := by simp; omega
  have h12 : (o == 12) = false := by simp; omega
  cases b
  · go_enter Try.func12, Try.ntmps12
    go_wp2_with fail
    refine (cut_narrow rfl rfl _).mono ?_; rintro e w' ⟨rfl, rfl⟩
    go_wp2_with fail
    refine (cut_narrow rfl rfl _).mono ?_; rintro e w' ⟨rfl, rfl⟩
    go_wp2_with fail
    go_ret2
    exact ⟨rfl, rfl⟩
  · go_enter Try.func12, Try.ntmps12
    go_wp2_with fail
    refine (cut_wide rfl _).mono ?_; rintro e w' ⟨rfl, rfl⟩
    go_wp2_with fail
    refine (cut_wide rfl _).mono ?_; rintro e w' ⟨rfl, rfl⟩
    go_wp2_with fail
    go_ret2
    exact ⟨rfl, rfl⟩

theorem ref_narrow (o : Nat) (x y a b : Nat) (w : World) (ho : o ≤ 12) (ha : a < 2 ^ 32) (hb : b < 2 ^ 32) (hxa : Hid (x % 2 ^ 32 = a)) (hyb : Hid (y % 2 ^ 32 = b)) :
    Calls Try.prog 12 #[.int .i64 o, .bool false, .int .u64 x, .int .u64 y] w fun e w' => e = .returned (.tuple #[.int .u64 (op 32 o a b : Nat), .bool true]) ∧ w = w' := by
  match o, ho with
  | 0, _ => exact ref_0_32 x y a b w ha hb hxa hyb
  | 1, _ => exact ref_1_32 x y a b w ha hb hxa hyb
  | 2, _ => exact ref_2_32 x y a b w ha hb hxa hyb
  | 3, _ =>
    rcases Nat.eq_zero_or_pos b with h | h
    · exact ref_3_32z x y a b w ha hb hxa hyb h
    · exact ref_3_32p x y a b w ha hb hxa hyb h
  | 4, _ => exact ref_4_32 x y a b w ha hb hxa hyb
  | 5, _ => exact ref_5_32 x y a b w ha hb hxa hyb
  | 6, _ => exact ref_6_32 x y a b w ha hb hxa hyb
  | 7, _ => exact ref_7_32 x y a b w ha hb hxa hyb
  | 8, _ => exact ref_8_32 x y a b w ha hb hxa hyb
  | 9, _ =>
    rcases Nat.eq_zero_or_pos b with h | h
    · exact ref_9_32z x y a b w ha hb hxa hyb h
    · exact ref_9_32p x y a b w ha hb hxa hyb h
  | 10, _ => exact ref_10_32 x y a b w ha hb hxa hyb
  | 11, _ => exact ref_11_32 x y a b w ha hb hxa hyb
  | 12, _ =>
    rcases Nat.lt_or_ge a (2 ^ 31) with h | h
    · exact ref_12_32n x y a b w ha hb hxa hyb h
    · exact ref_12_32s x y a b w ha hb hxa hyb h

/-- the reference's Do at an operation, whole. -/
theorem ref_op (o : Nat) (b : Bool) (x y : Nat) (w : World) (ho : o ≤ 12) (hx : x < 2 ^ 64) (hy : y < 2 ^ 64) :
    Calls Try.prog 12 #[.int .i64 o, .bool b, .int .u64 x, .int .u64 y] w fun e w' => e = .returned (.tuple #[.int .u64 (doV o b x y : Nat), .bool true]) ∧ w = w' := by
  cases b with
  | false => exact ref_narrow o x y _ _ w ho (Nat.mod_lt _ (by decide)) (Nat.mod_lt _ (by decide)) rfl rfl
  | true =>
    match o, ho with
    | 0, _ => exact ref_0_64 x y w hx hy
    | 1, _ => exact ref_1_64 x y w hx hy
    | 2, _ => exact ref_2_64 x y w hx hy
    | 3, _ =>
      rcases Nat.eq_zero_or_pos y with h | h
      · exact ref_3_64z x y w hx hy h
      · exact ref_3_64p x y w hx hy h
    | 4, _ => exact ref_4_64 x y w hx hy
    | 5, _ => exact ref_5_64 x y w hx hy
    | 6, _ => exact ref_6_64 x y w hx hy
    | 7, _ => exact ref_7_64 x y w hx hy
    | 8, _ => exact ref_8_64 x y w hx hy
    | 9, _ =>
      rcases Nat.eq_zero_or_pos y with h | h
      · exact ref_9_64z x y w hx hy h
      · exact ref_9_64p x y w hx hy h
    | 10, _ => exact ref_10_64 x y w hx hy
    | 11, _ => exact ref_11_64 x y w hx hy
    | 12, _ =>
      rcases Nat.lt_or_ge x (2 ^ 63) with h | h
      · exact ref_12_64n x y w hx hy h
      · exact ref_12_64s x y w hx hy h
end Go.Proofs.Ytdpnhpennceldaa
