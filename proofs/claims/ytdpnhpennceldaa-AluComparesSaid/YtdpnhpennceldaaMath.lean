/-
  PLAIN LAWS on natural numbers: what the operations of the document's layer 2 are (Do of one width), and the facts on them that the walks and the laws want. Nothing of the program stands here.
-/
namespace Go.Proofs.Ytdpnhpennceldaa.M

/-- the arithmetic shift of an n-bit number by k. -/
def ash (n a k : Nat) : Nat := if a < 2 ^ (n - 1) then a / 2 ^ k else 2 ^ n - 1 - (2 ^ n - 1 - a) / 2 ^ k

/-- the operation 'o' on two n-bit numbers. -/
def op (n : Nat) (o a b : Nat) : Nat :=
  match o with
  | 0 => (a + b) % 2 ^ n
  | 1 => (a + (2 ^ n - b)) % 2 ^ n
  | 2 => a * b % 2 ^ n
  | 3 => a / b
  | 4 => a ||| b
  | 5 => a &&& b
  | 6 => a * 2 ^ (b % n) % 2 ^ n
  | 7 => a / 2 ^ (b % n)
  | 8 => (2 ^ n - a) % 2 ^ n
  | 9 => a % b
  | 10 => a ^^^ b
  | 11 => b
  | _ => ash n a (b % n)

/-- what the program's inner functions make of two 32-bit numbers, ahead of the last cut. -/
def mid (o a b : Nat) : Nat :=
  match o with
  | 6 => a * 2 ^ (b % 32) % 2 ^ 64
  | 7 => a / 2 ^ (b % 32)
  | 12 => ash 32 a (b % 32)
  | o => op 64 o a b

def doV (o : Nat) (wide : Bool) (a b : Nat) : Nat := if wide then op 64 o a b else op 32 o (a % 2 ^ 32) (b % 2 ^ 32)

theorem pow_pos (n : Nat) : 0 < 2 ^ n := Nat.two_pow_pos n

theorem ash_lt {n a k : Nat} (ha : a < 2 ^ n) : ash n a k < 2 ^ n := by
  unfold ash
  have := pow_pos n
  split
  · exact Nat.lt_of_le_of_lt (Nat.div_le_self _ _) ha
  · generalize (2 ^ n - 1 - a) / 2 ^ k = q
    omega

theorem op_lt {n o a b : Nat} (ha : a < 2 ^ n) (hb : b < 2 ^ n) : op n o a b < 2 ^ n := by
  have := pow_pos n
  unfold op
  split
  · exact Nat.mod_lt _ this
  · exact Nat.mod_lt _ this
  · exact Nat.mod_lt _ this
  · exact Nat.lt_of_le_of_lt (Nat.div_le_self _ _) ha
  · exact Nat.or_lt_two_pow ha hb
  · exact Nat.and_lt_two_pow _ hb
  · exact Nat.mod_lt _ this
  · exact Nat.lt_of_le_of_lt (Nat.div_le_self _ _) ha
  · exact Nat.mod_lt _ this
  · exact Nat.lt_of_le_of_lt (Nat.mod_le _ _) ha
  · exact Nat.xor_lt_two_pow ha hb
  · exact hb
  · exact ash_lt ha

theorem mid_lt {o a b : Nat} (ha : a < 2 ^ 32) (hb : b < 2 ^ 32) : mid o a b < 2 ^ 64 := by
  have h64 : (2 : Nat) ^ 32 < 2 ^ 64 := by decide
  unfold mid
  split
  · exact Nat.mod_lt _ (pow_pos _)
  · exact Nat.lt_of_le_of_lt (Nat.div_le_self _ _) (Nat.lt_trans ha h64)
  · exact Nat.lt_trans (ash_lt ha) h64
  · exact op_lt (Nat.lt_trans ha h64) (Nat.lt_trans hb h64)

theorem mid_mod {o a b : Nat} (ho : o ≤ 12) (ha : a < 2 ^ 32) (hb : b < 2 ^ 32) : mid o a b % 2 ^ 32 = op 32 o a b := by
  have hsmall : ∀ x, x < 2 ^ 32 → x % 2 ^ 32 = x := fun x hx => Nat.mod_eq_of_lt hx
  have hmm : ∀ x : Nat, x % 2 ^ 64 % 2 ^ 32 = x % 2 ^ 32 := fun x => by omega
  match o, ho with
  | 0, _ => simp only [mid, op]; exact hmm _
  | 1, _ => simp only [mid, op]; omega
  | 2, _ => simp only [mid, op]; exact hmm _
  | 3, _ => simp only [mid, op]; exact hsmall _ (Nat.lt_of_le_of_lt (Nat.div_le_self _ _) ha)
  | 4, _ => simp only [mid, op]; exact hsmall _ (Nat.or_lt_two_pow ha hb)
  | 5, _ => simp only [mid, op]; exact hsmall _ (Nat.and_lt_two_pow _ hb)
  | 6, _ => simp only [mid, op]; exact hmm _
  | 7, _ => simp only [mid, op]; exact hsmall _ (Nat.lt_of_le_of_lt (Nat.div_le_self _ _) ha)
  | 8, _ => simp only [mid, op]; omega
  | 9, _ => simp only [mid, op]; exact hsmall _ (Nat.lt_of_le_of_lt (Nat.mod_le _ _) ha)
  | 10, _ => simp only [mid, op]; exact hsmall _ (Nat.xor_lt_two_pow ha hb)
  | 11, _ => simp only [mid, op]; exact hsmall _ hb
  | 12, _ => simp only [mid, op]; exact hsmall _ (ash_lt ha)

theorem doV_lt {o : Nat} {wide : Bool} {a b : Nat} (ha : a < 2 ^ 64) (hb : b < 2 ^ 64) : doV o wide a b < 2 ^ 64 := by
  unfold doV
  split
  · exact op_lt ha hb
  · exact Nat.lt_trans (op_lt (Nat.mod_lt _ (pow_pos _)) (Nat.mod_lt _ (pow_pos _))) (by decide)

theorem doV_narrow_lt {o a b : Nat} : doV o false a b < 2 ^ 32 := by
  unfold doV
  simp only [Bool.false_eq_true, if_false]
  exact op_lt (Nat.mod_lt _ (pow_pos _)) (Nat.mod_lt _ (pow_pos _))

theorem doV_narrow_mod {o a b : Nat} : doV o false (a % 2 ^ 32) (b % 2 ^ 32) = doV o false a b := by
  simp only [doV, Bool.false_eq_true, if_false, Nat.mod_mod]

/-! ### the arithmetic shift, as a machine finds it -/

/-- of a whole number below 0: the floor of the division. -/
theorem neg_div (m d : Nat) (hd : 0 < d) : (-(m : Int) - 1) / (d : Int) = -((m / d : Nat) : Int) - 1 := by
  have h := Int.negSucc_ediv m (b := (d : Int)) (by omega)
  have e : (Int.negSucc m) = -(m : Int) - 1 := by omega
  rw [e] at h
  rw [h]
  have : ((m : Int).ediv (d : Int)) = ((m / d : Nat) : Int) := rfl
  rw [this]
  omega

theorem ash_int {n a k : Nat} (ha : a < 2 ^ n) :
    ((if a < 2 ^ (n - 1) then (a : Int) else (a : Int) - ((2 ^ n : Nat) : Int)) / ((2 ^ k : Nat) : Int)) % ((2 ^ n : Nat) : Int) = (ash n a k : Int) := by
  have hp := pow_pos n
  unfold ash
  split
  · have : ((a : Int) / ((2 ^ k : Nat) : Int)) = ((a / 2 ^ k : Nat) : Int) := by simp
    rw [this]
    have hlt : a / 2 ^ k < 2 ^ n := Nat.lt_of_le_of_lt (Nat.div_le_self _ _) ha
    rw [← Int.natCast_emod, Nat.mod_eq_of_lt hlt]
  · generalize hM : 2 ^ n = M at *
    have e : (a : Int) - (M : Int) = -((M - 1 - a : Nat) : Int) - 1 := by omega
    rw [e, neg_div _ _ (pow_pos k)]
    have hle : (M - 1 - a) / 2 ^ k ≤ M - 1 - a := Nat.div_le_self _ _
    generalize (M - 1 - a) / 2 ^ k = q at *
    have e2 : -((q : Nat) : Int) - 1 = ((M - 1 - q : Nat) : Int) - (M : Int) := by omega
    rw [e2, Int.sub_emod_right]
    rw [← Int.natCast_emod, Nat.mod_eq_of_lt (by omega)]

/-! ### the arithmetic shift, as the document's reference finds it: the sign's bit, copied in one by one -/

theorem or_join {i x y : Nat} (hx : x % 2 ^ i = 0) (hy : y < 2 ^ i) : x ||| y = x + y := by
  have e : x = 2 ^ i * (x / 2 ^ i) := by have := Nat.div_add_mod x (2 ^ i); omega
  rw [e]
  exact (Nat.two_pow_add_eq_or_of_lt hy _).symm

/-- one round of the reference's loop. -/
theorem arsh_round {n m i y : Nat} (hi : i < m) (hm : m < n) (hy : y < 2 ^ (n - m)) :
    (2 ^ n - 2 ^ (n - i) + y) ||| 2 ^ (n - 1 - i) = 2 ^ n - 2 ^ (n - (i + 1)) + y := by
  have hy' : y < 2 ^ (n - 1 - i) := Nat.lt_of_lt_of_le hy (Nat.pow_le_pow_right (by decide) (by omega))
  have e1 : 2 ^ (n - i) = 2 * 2 ^ (n - 1 - i) := by rw [show n - i = (n - 1 - i) + 1 by omega, Nat.pow_succ]; omega
  have e2 : n - (i + 1) = n - 1 - i := by omega
  have e3 : 2 ^ n = 2 ^ (n - i) * 2 ^ i := by rw [← Nat.pow_add]; congr 1; omega
  have e4 : 2 ^ n - 2 ^ (n - i) = 2 ^ (n - i) * (2 ^ i - 1) := by rw [Nat.mul_sub, ← e3, Nat.mul_one]
  have hj : (2 ^ n - 2 ^ (n - i)) % 2 ^ (n - i) = 0 := by rw [e4]; exact Nat.mul_mod_right _ _
  have hle : 2 ^ (n - i) ≤ 2 ^ n := Nat.pow_le_pow_right (by decide) (by omega)
  rw [← or_join hj (by omega), Nat.or_assoc, Nat.or_comm y, or_join (Nat.mod_self _) hy', or_join hj (by omega), e2]
  omega

/-- its end. -/
theorem arsh_end {n m a : Nat} (hm : m < n) (ha : a < 2 ^ n) (hs : ¬ a < 2 ^ (n - 1)) : 2 ^ n - 2 ^ (n - m) + a / 2 ^ m = ash n a m := by
  have e3 : 2 ^ n = 2 ^ m * 2 ^ (n - m) := by rw [← Nat.pow_add]; congr 1; omega
  unfold ash
  rw [if_neg hs]
  have h := Nat.mul_sub_div a (2 ^ m) (2 ^ (n - m)) (by omega)
  rw [← e3] at h
  have e : 2 ^ n - 1 - a = 2 ^ n - (a + 1) := by omega
  rw [e, h]
  have hd : a / 2 ^ m < 2 ^ (n - m) := by rw [Nat.div_lt_iff_lt_mul (pow_pos _), Nat.mul_comm, ← e3]; exact ha
  have hle : 2 ^ (n - m) ≤ 2 ^ n := Nat.pow_le_pow_right (by decide) (by omega)
  generalize a / 2 ^ m = q at *
  omega

theorem sign_bit {n a : Nat} (hn : 0 < n) (ha : a < 2 ^ n) : a / 2 ^ (n - 1) = if a < 2 ^ (n - 1) then 0 else 1 := by
  have e : 2 ^ n = 2 * 2 ^ (n - 1) := by rw [show n = (n - 1) + 1 by omega, Nat.pow_succ]; simp; omega
  split
  · rename_i h; exact Nat.div_eq_of_lt h
  · rename_i h
    have h1 : a / 2 ^ (n - 1) < 2 := by rw [Nat.div_lt_iff_lt_mul (pow_pos _)]; omega
    have h2 : 1 ≤ a / 2 ^ (n - 1) := by rw [Nat.le_div_iff_mul_le (pow_pos _)]; omega
    omega

/-! ### the laws' own facts -/

theorem or_and_add (a : Nat) : ∀ b, (a ||| b) + (a &&& b) = a + b := by
  induction a using Nat.strongRecOn with
  | ind a ih =>
    intro b
    by_cases h : a = 0
    · subst h; simp
    · have := ih (a / 2) (by omega) (b / 2)
      have o1 : (a ||| b) / 2 = a / 2 ||| b / 2 := Nat.or_div_two
      have o2 : (a &&& b) / 2 = a / 2 &&& b / 2 := Nat.and_div_two
      have m1 : (a ||| b) % 2 + (a &&& b) % 2 = a % 2 + b % 2 := by
        have x1 := @Nat.or_mod_two_eq_one a b
        have x2 := @Nat.and_mod_two_eq_one a b
        omega
      omega

theorem or_eq_xor_add_and (a : Nat) : ∀ b, (a ||| b) = (a ^^^ b) + (a &&& b) := by
  induction a using Nat.strongRecOn with
  | ind a ih =>
    intro b
    by_cases h : a = 0
    · subst h; simp
    · have := ih (a / 2) (by omega) (b / 2)
      have o1 : (a ||| b) / 2 = a / 2 ||| b / 2 := Nat.or_div_two
      have o2 : (a &&& b) / 2 = a / 2 &&& b / 2 := Nat.and_div_two
      have o3 : (a ^^^ b) / 2 = a / 2 ^^^ b / 2 := Nat.xor_div_two
      have m1 : (a ||| b) % 2 = (a ^^^ b) % 2 + (a &&& b) % 2 := by
        have x1 := @Nat.or_mod_two_eq_one a b
        have x2 := @Nat.and_mod_two_eq_one a b
        have x3 := @Nat.xor_mod_two_eq_one a b
        omega
      omega

theorem xor_back (a b : Nat) : (a ^^^ b) ^^^ b = a := by rw [Nat.xor_assoc, Nat.xor_self, Nat.xor_zero]

theorem sub_of {n x y z : Nat} (h : x = z + y) (hx : x < 2 ^ n) : (x + (2 ^ n - y)) % 2 ^ n = z := by
  have e : x + (2 ^ n - y) = z + 2 ^ n := by omega
  rw [e, Nat.add_mod_right, Nat.mod_eq_of_lt (by omega)]

theorem there_back {n k x : Nat} (hk : k < n) : x * 2 ^ k % 2 ^ n / 2 ^ k = x % 2 ^ (n - k) := by
  have e : 2 ^ n = 2 ^ (n - k) * 2 ^ k := by rw [← Nat.pow_add]; congr 1; omega
  rw [e, Nat.mul_mod_mul_right, Nat.mul_div_cancel _ (pow_pos _)]

theorem back_there {n k x : Nat} (hx : x < 2 ^ n) : x / 2 ^ k * 2 ^ k % 2 ^ n = x - x % 2 ^ k := by
  have h := Nat.div_add_mod x (2 ^ k)
  rw [Nat.mul_comm] at h
  rw [Nat.mod_eq_of_lt (by omega)]
  omega

theorem quot_rest {n a b : Nat} (ha : a < 2 ^ n) : (a / b * b % 2 ^ n + a % b) % 2 ^ n = a := by
  have h := Nat.div_add_mod a b
  rw [Nat.mul_comm] at h
  rw [Nat.mod_eq_of_lt (a := a / b * b) (by omega), h, Nat.mod_eq_of_lt ha]

end Go.Proofs.Ytdpnhpennceldaa.M
