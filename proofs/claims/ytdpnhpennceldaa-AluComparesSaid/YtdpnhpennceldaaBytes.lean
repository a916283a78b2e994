/-
  PLAIN LAWS on bytes: a number's lowest bytes in the other order, as the document's reference finds it and as masks and shifts find it.
-/
import Derived.Test.YtdpnhpennceldaaWalks
namespace Go.Proofs.Ytdpnhpennceldaa
open Go.RowKit M
set_option linter.unusedVariables false
namespace M
/-- the lowest k bytes of a in the other order. -/
def turnN : Nat → Nat → Nat
  | 0, _ => 0
  | k + 1, a => 256 * turnN k a + a / 2 ^ (8 * k) % 256

theorem turnN_lt (k a : Nat) : turnN k a < 256 ^ k := by
  induction k with
  | zero => simp [turnN]
  | succ k ih =>
    have : a / 2 ^ (8 * k) % 256 < 256 := Nat.mod_lt _ (by decide)
    simp only [turnN, Nat.pow_succ]
    omega

def num : List Nat → Nat
  | [] => 0
  | b :: l => b + 256 * num l

theorem and_cons {a b x y : Nat} (ha : a < 256) (hb : b < 256) : (a + 256 * x) &&& (b + 256 * y) = (a &&& b) + 256 * (x &&& y) := by
  have h1 := @Nat.and_div_two_pow (a + 256 * x) (b + 256 * y) 8
  have h2 := @Nat.and_mod_two_pow (a + 256 * x) (b + 256 * y) 8
  rw [show (a + 256 * x) / 2 ^ 8 = x by omega, show (b + 256 * y) / 2 ^ 8 = y by omega] at h1
  rw [show (a + 256 * x) % 2 ^ 8 = a by omega, show (b + 256 * y) % 2 ^ 8 = b by omega] at h2
  omega
theorem or_cons {a b x y : Nat} (ha : a < 256) (hb : b < 256) : (a + 256 * x) ||| (b + 256 * y) = (a ||| b) + 256 * (x ||| y) := by
  have h1 := @Nat.or_div_two_pow (a + 256 * x) (b + 256 * y) 8
  have h2 := @Nat.or_mod_two_pow (a + 256 * x) (b + 256 * y) 8
  rw [show (a + 256 * x) / 2 ^ 8 = x by omega, show (b + 256 * y) / 2 ^ 8 = y by omega] at h1
  rw [show (a + 256 * x) % 2 ^ 8 = a by omega, show (b + 256 * y) % 2 ^ 8 = b by omega] at h2
  omega
theorem num_and : ∀ (l m : List Nat), l.length = m.length → (∀ b ∈ l, b < 256) → (∀ b ∈ m, b < 256) → num l &&& num m = num (List.zipWith (fun a b => a &&& b) l m)
  | [], [], _, _, _ => by simp [num]
  | a :: l, b :: m, h, hl, hm => by
    simp only [num, List.zipWith]
    rw [and_cons (hl a (by simp)) (hm b (by simp)), num_and l m (by simpa using h) (fun c hc => hl c (by simp [hc])) (fun c hc => hm c (by simp [hc]))]
  | [], _ :: _, h, _, _ => by simp at h
  | _ :: _, [], h, _, _ => by simp at h
theorem num_or : ∀ (l m : List Nat), l.length = m.length → (∀ b ∈ l, b < 256) → (∀ b ∈ m, b < 256) → num l ||| num m = num (List.zipWith (fun a b => a ||| b) l m)
  | [], [], _, _, _ => by simp [num]
  | a :: l, b :: m, h, hl, hm => by
    simp only [num, List.zipWith]
    rw [or_cons (hl a (by simp)) (hm b (by simp)), num_or l m (by simpa using h) (fun c hc => hl c (by simp [hc])) (fun c hc => hm c (by simp [hc]))]
  | [], _ :: _, h, _, _ => by simp at h
  | _ :: _, [], h, _, _ => by simp at h
theorem num_lt : ∀ l : List Nat, (∀ b ∈ l, b < 256) → num l < 256 ^ l.length
  | [], _ => by simp [num]
  | b :: l, h => by
    have h1 := h b (by simp)
    have h2 := num_lt l (fun c hc => h c (by simp [hc]))
    simp only [num, List.length_cons, Nat.pow_succ]
    omega
theorem and255 {b : Nat} (h : b < 256) : b &&& 255 = b := by
  have := Nat.and_two_pow_sub_one_eq_mod b 8
  rw [show (2 : Nat) ^ 8 - 1 = 255 by decide] at this
  rw [this]; omega

theorem sw16 (b0 b1 : Nat) (h0 : b0 < 256) (h1 : b1 < 256) : (num [b0, b1] / 256 ||| num [b0, b1] * 256 % 65536) = num [b1, b0] := by
  rw [show num [b0, b1] / 256 = num [b1, 0] by simp only [num]; omega, show num [b0, b1] * 256 % 65536 = num [0, b0] by simp only [num]; omega]
  rw [num_or [b1, 0] [0, b0] rfl (by simp; omega) (by simp; omega)]
  simp
theorem sw32a (b0 b1 b2 b3 : Nat) (h0 : b0 < 256) (h1 : b1 < 256) (h2 : b2 < 256) (h3 : b3 < 256) :
    ((num [b0, b1, b2, b3] / 256 &&& 16711935) ||| (num [b0, b1, b2, b3] &&& 16711935) * 256 % 4294967296) = num [b1, b0, b3, b2] := by
  rw [show 16711935 = num [255, 0, 255, 0] by decide, show num [b0, b1, b2, b3] / 256 = num [b1, b2, b3, 0] by simp only [num]; omega]
  rw [num_and [b1, b2, b3, 0] [255, 0, 255, 0] rfl (by simp; omega) (by simp), num_and [b0, b1, b2, b3] [255, 0, 255, 0] rfl (by simp; omega) (by simp)]
  simp only [List.zipWith, Nat.and_zero, and255 h0, and255 h1, and255 h2, and255 h3]
  rw [show num [b0, 0, b2, 0] * 256 % 4294967296 = num [0, b0, 0, b2] by simp only [num]; omega]
  rw [num_or [b1, 0, b3, 0] [0, b0, 0, b2] rfl (by simp; omega) (by simp; omega)]
  simp
theorem sw32b (b0 b1 b2 b3 : Nat) (h0 : b0 < 256) (h1 : b1 < 256) (h2 : b2 < 256) (h3 : b3 < 256) :
    (num [b0, b1, b2, b3] / 65536 ||| num [b0, b1, b2, b3] * 65536 % 4294967296) = num [b2, b3, b0, b1] := by
  rw [show num [b0, b1, b2, b3] / 65536 = num [b2, b3, 0, 0] by simp only [num]; omega, show num [b0, b1, b2, b3] * 65536 % 4294967296 = num [0, 0, b0, b1] by simp only [num]; omega]
  rw [num_or [b2, b3, 0, 0] [0, 0, b0, b1] rfl (by simp; omega) (by simp; omega)]
  simp
theorem sw64a (b0 b1 b2 b3 b4 b5 b6 b7 : Nat) (h0 : b0 < 256) (h1 : b1 < 256) (h2 : b2 < 256) (h3 : b3 < 256) (h4 : b4 < 256) (h5 : b5 < 256) (h6 : b6 < 256) (h7 : b7 < 256) :
    ((num [b0, b1, b2, b3, b4, b5, b6, b7] / 256 &&& 71777214294589695) ||| (num [b0, b1, b2, b3, b4, b5, b6, b7] &&& 71777214294589695) * 256 % 2 ^ 64) = num [b1, b0, b3, b2, b5, b4, b7, b6] := by
  rw [show 71777214294589695 = num [255, 0, 255, 0, 255, 0, 255, 0] by decide, show num [b0, b1, b2, b3, b4, b5, b6, b7] / 256 = num [b1, b2, b3, b4, b5, b6, b7, 0] by simp only [num]; omega]
  rw [num_and [b1, b2, b3, b4, b5, b6, b7, 0] [255, 0, 255, 0, 255, 0, 255, 0] rfl (by simp; omega) (by simp), num_and [b0, b1, b2, b3, b4, b5, b6, b7] [255, 0, 255, 0, 255, 0, 255, 0] rfl (by simp; omega) (by simp)]
  simp only [List.zipWith, Nat.and_zero, and255 h0, and255 h1, and255 h2, and255 h3, and255 h4, and255 h5, and255 h6, and255 h7]
  rw [show num [b0, 0, b2, 0, b4, 0, b6, 0] * 256 % 2 ^ 64 = num [0, b0, 0, b2, 0, b4, 0, b6] by simp only [num]; omega]
  rw [num_or [b1, 0, b3, 0, b5, 0, b7, 0] [0, b0, 0, b2, 0, b4, 0, b6] rfl (by simp; omega) (by simp; omega)]
  simp
theorem sw64b (b0 b1 b2 b3 b4 b5 b6 b7 : Nat) (h0 : b0 < 256) (h1 : b1 < 256) (h2 : b2 < 256) (h3 : b3 < 256) (h4 : b4 < 256) (h5 : b5 < 256) (h6 : b6 < 256) (h7 : b7 < 256) :
    ((num [b0, b1, b2, b3, b4, b5, b6, b7] / 65536 &&& 281470681808895) ||| (num [b0, b1, b2, b3, b4, b5, b6, b7] &&& 281470681808895) * 65536 % 2 ^ 64) = num [b2, b3, b0, b1, b6, b7, b4, b5] := by
  rw [show 281470681808895 = num [255, 255, 0, 0, 255, 255, 0, 0] by decide, show num [b0, b1, b2, b3, b4, b5, b6, b7] / 65536 = num [b2, b3, b4, b5, b6, b7, 0, 0] by simp only [num]; omega]
  rw [num_and [b2, b3, b4, b5, b6, b7, 0, 0] [255, 255, 0, 0, 255, 255, 0, 0] rfl (by simp; omega) (by simp), num_and [b0, b1, b2, b3, b4, b5, b6, b7] [255, 255, 0, 0, 255, 255, 0, 0] rfl (by simp; omega) (by simp)]
  simp only [List.zipWith, Nat.and_zero, and255 h0, and255 h1, and255 h2, and255 h3, and255 h4, and255 h5, and255 h6, and255 h7]
  rw [show num [b0, b1, 0, 0, b4, b5, 0, 0] * 65536 % 2 ^ 64 = num [0, 0, b0, b1, 0, 0, b4, b5] by simp only [num]; omega]
  rw [num_or [b2, b3, 0, 0, b6, b7, 0, 0] [0, 0, b0, b1, 0, 0, b4, b5] rfl (by simp; omega) (by simp; omega)]
  simp
theorem sw64c (b0 b1 b2 b3 b4 b5 b6 b7 : Nat) (h0 : b0 < 256) (h1 : b1 < 256) (h2 : b2 < 256) (h3 : b3 < 256) (h4 : b4 < 256) (h5 : b5 < 256) (h6 : b6 < 256) (h7 : b7 < 256) :
    (num [b0, b1, b2, b3, b4, b5, b6, b7] / 4294967296 ||| num [b0, b1, b2, b3, b4, b5, b6, b7] * 4294967296 % 2 ^ 64) = num [b4, b5, b6, b7, b0, b1, b2, b3] := by
  rw [show num [b0, b1, b2, b3, b4, b5, b6, b7] / 4294967296 = num [b4, b5, b6, b7, 0, 0, 0, 0] by simp only [num]; omega, show num [b0, b1, b2, b3, b4, b5, b6, b7] * 4294967296 % 2 ^ 64 = num [0, 0, 0, 0, b0, b1, b2, b3] by simp only [num]; omega]
  rw [num_or [b4, b5, b6, b7, 0, 0, 0, 0] [0, 0, 0, 0, b0, b1, b2, b3] rfl (by simp; omega) (by simp; omega)]
  simp

theorem bytes2 (x : Nat) : ∃ b0 b1, b0 < 256 ∧ b1 < 256 ∧ x % 2 ^ 16 = num [b0, b1] ∧ turnN 2 x = num [b1, b0] := by
  refine ⟨x % 256, x / 256 % 256, by omega, by omega, by simp only [num]; omega, ?_⟩
  simp [turnN, num]; omega
theorem bytes4 (x : Nat) : ∃ b0 b1 b2 b3, b0 < 256 ∧ b1 < 256 ∧ b2 < 256 ∧ b3 < 256 ∧ x % 2 ^ 32 = num [b0, b1, b2, b3] ∧ turnN 4 x = num [b3, b2, b1, b0] := by
  refine ⟨x % 256, x / 256 % 256, x / 65536 % 256, x / 16777216 % 256, by omega, by omega, by omega, by omega, by simp only [num]; omega, ?_⟩
  simp [turnN, num]; omega
theorem bytes8 (x : Nat) : ∃ b0 b1 b2 b3 b4 b5 b6 b7, b0 < 256 ∧ b1 < 256 ∧ b2 < 256 ∧ b3 < 256 ∧ b4 < 256 ∧ b5 < 256 ∧ b6 < 256 ∧ b7 < 256 ∧ x % 2 ^ 64 = num [b0, b1, b2, b3, b4, b5, b6, b7] ∧ turnN 8 x = num [b7, b6, b5, b4, b3, b2, b1, b0] := by
  refine ⟨x % 256, x / 256 % 256, x / 65536 % 256, x / 16777216 % 256, x / 4294967296 % 256, x / 1099511627776 % 256, x / 281474976710656 % 256, x / 72057594037927936 % 256, by omega, by omega, by omega, by omega, by omega, by omega, by omega, by omega, by simp only [num]; omega, ?_⟩
  simp [turnN, num]; omega

theorem byte_zero {b : Nat} (h : b < 256) (l : List Nat) : num (b :: l) / 2 ^ (8 * 0) % 256 = b := by simp only [num]; omega
theorem byte_succ {b : Nat} (h : b < 256) (l : List Nat) (k : Nat) : num (b :: l) / 2 ^ (8 * (k + 1)) % 256 = num l / 2 ^ (8 * k) % 256 := by
  rw [show 8 * (k + 1) = 8 + 8 * k by omega, Nat.pow_add, ← Nat.div_div_eq_div_mul]
  rw [show num (b :: l) / 2 ^ 8 = num l by simp only [num]; omega]
theorem turn_num2 (b0 b1 : Nat) (h0 : b0 < 256) (h1 : b1 < 256) : turnN 2 (num [b0, b1]) = num [b1, b0] := by
  have e0 : num [b0, b1] / 2 ^ (8 * 0) % 256 = b0 := by rw [byte_zero h0]
  have e1 : num [b0, b1] / 2 ^ (8 * 1) % 256 = b1 := by rw [byte_succ h0, byte_zero h1]
  simp only [turnN, e0, e1]
  simp only [num]; omega
theorem turn_num4 (b0 b1 b2 b3 : Nat) (h0 : b0 < 256) (h1 : b1 < 256) (h2 : b2 < 256) (h3 : b3 < 256) : turnN 4 (num [b0, b1, b2, b3]) = num [b3, b2, b1, b0] := by
  have e0 : num [b0, b1, b2, b3] / 2 ^ (8 * 0) % 256 = b0 := by rw [byte_zero h0]
  have e1 : num [b0, b1, b2, b3] / 2 ^ (8 * 1) % 256 = b1 := by rw [byte_succ h0, byte_zero h1]
  have e2 : num [b0, b1, b2, b3] / 2 ^ (8 * 2) % 256 = b2 := by rw [byte_succ h0, byte_succ h1, byte_zero h2]
  have e3 : num [b0, b1, b2, b3] / 2 ^ (8 * 3) % 256 = b3 := by rw [byte_succ h0, byte_succ h1, byte_succ h2, byte_zero h3]
  simp only [turnN, e0, e1, e2, e3]
  simp only [num]; omega
theorem turn_num8 (b0 b1 b2 b3 b4 b5 b6 b7 : Nat) (h0 : b0 < 256) (h1 : b1 < 256) (h2 : b2 < 256) (h3 : b3 < 256) (h4 : b4 < 256) (h5 : b5 < 256) (h6 : b6 < 256) (h7 : b7 < 256) : turnN 8 (num [b0, b1, b2, b3, b4, b5, b6, b7]) = num [b7, b6, b5, b4, b3, b2, b1, b0] := by
  have e0 : num [b0, b1, b2, b3, b4, b5, b6, b7] / 2 ^ (8 * 0) % 256 = b0 := by rw [byte_zero h0]
  have e1 : num [b0, b1, b2, b3, b4, b5, b6, b7] / 2 ^ (8 * 1) % 256 = b1 := by rw [byte_succ h0, byte_zero h1]
  have e2 : num [b0, b1, b2, b3, b4, b5, b6, b7] / 2 ^ (8 * 2) % 256 = b2 := by rw [byte_succ h0, byte_succ h1, byte_zero h2]
  have e3 : num [b0, b1, b2, b3, b4, b5, b6, b7] / 2 ^ (8 * 3) % 256 = b3 := by rw [byte_succ h0, byte_succ h1, byte_succ h2, byte_zero h3]
  have e4 : num [b0, b1, b2, b3, b4, b5, b6, b7] / 2 ^ (8 * 4) % 256 = b4 := by rw [byte_succ h0, byte_succ h1, byte_succ h2, byte_succ h3, byte_zero h4]
  have e5 : num [b0, b1, b2, b3, b4, b5, b6, b7] / 2 ^ (8 * 5) % 256 = b5 := by rw [byte_succ h0, byte_succ h1, byte_succ h2, byte_succ h3, byte_succ h4, byte_zero h5]
  have e6 : num [b0, b1, b2, b3, b4, b5, b6, b7] / 2 ^ (8 * 6) % 256 = b6 := by rw [byte_succ h0, byte_succ h1, byte_succ h2, byte_succ h3, byte_succ h4, byte_succ h5, byte_zero h6]
  have e7 : num [b0, b1, b2, b3, b4, b5, b6, b7] / 2 ^ (8 * 7) % 256 = b7 := by rw [byte_succ h0, byte_succ h1, byte_succ h2, byte_succ h3, byte_succ h4, byte_succ h5, byte_succ h6, byte_zero h7]
  simp only [turnN, e0, e1, e2, e3, e4, e5, e6, e7]
  simp only [num]; omega
theorem turn_turn2 (x : Nat) : turnN 2 (turnN 2 x) = x % 2 ^ 16 := by
  obtain ⟨b0, b1, h0, h1, e, t⟩ := bytes2 x
  rw [t, e, turn_num2 _ _ h1 h0]
theorem turn_turn4 (x : Nat) : turnN 4 (turnN 4 x) = x % 2 ^ 32 := by
  obtain ⟨b0, b1, b2, b3, h0, h1, h2, h3, e, t⟩ := bytes4 x
  rw [t, e, turn_num4 _ _ _ _ h3 h2 h1 h0]
theorem turn_turn8 (x : Nat) : turnN 8 (turnN 8 x) = x % 2 ^ 64 := by
  obtain ⟨b0, b1, b2, b3, b4, b5, b6, b7, h0, h1, h2, h3, h4, h5, h6, h7, e, t⟩ := bytes8 x
  rw [t, e, turn_num8 _ _ _ _ _ _ _ _ h7 h6 h5 h4 h3 h2 h1 h0]
end M

theorem or_lt16 {a b : Nat} (ha : a < 65536) (hb : b < 65536) : a ||| b < 65536 := Nat.or_lt_two_pow (n := 16) ha hb
theorem r16 (x : Nat) (hx : x < 2 ^ 16) : bits BinOp.or IntKind.u16 ((x : Int) / 256) (IntKind.u16.wrap ((x : Int) * 256)) = ((turnN 2 x : Nat) : Int) := by
  obtain ⟨b0, b1, h0, h1, e, t⟩ := bytes2 x
  have e1 : (x : Int) / 256 = ((x / 256 : Nat) : Int) := by omega
  have e2 : IntKind.u16.wrap ((x : Int) * 256) = ((x * 256 % 65536 : Nat) : Int) := by rw [IntKind.wrap_u16]; omega
  rw [e1, e2, u16_or_nat _ _ (by omega) (by omega)]
  rw [Nat.mod_eq_of_lt hx] at e
  rw [t, e, sw16 b0 b1 h0 h1]
theorem c32a (x : Nat) (hx : x < 2 ^ 32) : bits BinOp.or IntKind.u32 (bits BinOp.and IntKind.u32 ((x : Int) / 256) 16711935) (bits BinOp.and IntKind.u32 (x : Int) 16711935 * 256 % 4294967296)
    = (((x / 256 &&& 16711935) ||| (x &&& 16711935) * 256 % 4294967296 : Nat) : Int) := by
  have e1 : (x : Int) / 256 = ((x / 256 : Nat) : Int) := by omega
  have l1 : (x / 256 &&& 16711935) < 4294967296 := Nat.and_lt_two_pow (n := 32) _ (by decide)
  rw [show (16711935 : Int) = ((16711935 : Nat) : Int) from rfl, e1, u32_and_nat _ 16711935 (by omega) (by decide), u32_and_nat x 16711935 (by omega) (by decide), show (((x &&& 16711935 : Nat) : Int) * 256 % 4294967296) = (((x &&& 16711935) * 256 % 4294967296 : Nat) : Int) by omega,
    u32_or_nat _ _ l1 (Nat.mod_lt _ (by decide))]
theorem r32 (x : Nat) (hx : x < 2 ^ 32) : bits BinOp.or IntKind.u32
      (bits BinOp.or IntKind.u32 (bits BinOp.and IntKind.u32 ((x : Int) / 256) 16711935)
          (bits BinOp.and IntKind.u32 (x : Int) 16711935 * 256 % 4294967296) /
        65536)
      (bits BinOp.or IntKind.u32 (bits BinOp.and IntKind.u32 ((x : Int) / 256) 16711935)
            (bits BinOp.and IntKind.u32 (x : Int) 16711935 * 256 % 4294967296) *
          65536 %
        4294967296) = ((turnN 4 x : Nat) : Int) := by
  obtain ⟨b0, b1, b2, b3, h0, h1, h2, h3, e, t⟩ := bytes4 x
  rw [Nat.mod_eq_of_lt hx] at e
  rw [c32a x hx, t, e, sw32a _ _ _ _ h0 h1 h2 h3]
  have hl : num [b1, b0, b3, b2] < 4294967296 := by simp only [num]; omega
  rw [← sw32b b1 b0 b3 b2 h1 h0 h3 h2]
  generalize num [b1, b0, b3, b2] = y at *
  have e1 : (y : Int) / 65536 = ((y / 65536 : Nat) : Int) := by omega
  rw [e1, show ((y : Int) * 65536 % 4294967296) = ((y * 65536 % 4294967296 : Nat) : Int) by omega, u32_or_nat _ _ (by omega) (Nat.mod_lt _ (by decide))]
theorem c64a (x : Nat) (hx : x < 2 ^ 64) : bits BinOp.or IntKind.u64 (bits BinOp.and IntKind.u64 ((x : Int) / 256) 71777214294589695) (IntKind.u64.wrap (bits BinOp.and IntKind.u64 (x : Int) 71777214294589695 * 256))
    = (((x / 256 &&& 71777214294589695) ||| (x &&& 71777214294589695) * 256 % 2 ^ 64 : Nat) : Int) := by
  have e1 : (x : Int) / 256 = ((x / 256 : Nat) : Int) := by omega
  have l1 : (x / 256 &&& 71777214294589695) < 18446744073709551616 := Nat.and_lt_two_pow (n := 64) _ (by decide)
  rw [show (71777214294589695 : Int) = ((71777214294589695 : Nat) : Int) from rfl, e1, u64_and_nat _ 71777214294589695 (by omega) (by decide), u64_and_nat x 71777214294589695 (by omega) (by decide), show (((x &&& 71777214294589695 : Nat) : Int) * 256) = (((x &&& 71777214294589695) * 256 : Nat) : Int) by omega, wrapN,
    u64_or_nat _ _ l1 (Nat.mod_lt _ (by decide))]
theorem c64b (x : Nat) (hx : x < 2 ^ 64) : bits BinOp.or IntKind.u64 (bits BinOp.and IntKind.u64 ((x : Int) / 65536) 281470681808895) (IntKind.u64.wrap (bits BinOp.and IntKind.u64 (x : Int) 281470681808895 * 65536))
    = (((x / 65536 &&& 281470681808895) ||| (x &&& 281470681808895) * 65536 % 2 ^ 64 : Nat) : Int) := by
  have e1 : (x : Int) / 65536 = ((x / 65536 : Nat) : Int) := by omega
  have l1 : (x / 65536 &&& 281470681808895) < 18446744073709551616 := Nat.and_lt_two_pow (n := 64) _ (by decide)
  rw [show (281470681808895 : Int) = ((281470681808895 : Nat) : Int) from rfl, e1, u64_and_nat _ 281470681808895 (by omega) (by decide), u64_and_nat x 281470681808895 (by omega) (by decide), show (((x &&& 281470681808895 : Nat) : Int) * 65536) = (((x &&& 281470681808895) * 65536 : Nat) : Int) by omega, wrapN,
    u64_or_nat _ _ l1 (Nat.mod_lt _ (by decide))]
theorem c64c (x : Nat) (hx : x < 2 ^ 64) : bits BinOp.or IntKind.u64 ((x : Int) / 4294967296) (IntKind.u64.wrap ((x : Int) * 4294967296)) = ((x / 4294967296 ||| x * 4294967296 % 2 ^ 64 : Nat) : Int) := by
  have e1 : (x : Int) / 4294967296 = ((x / 4294967296 : Nat) : Int) := by omega
  rw [e1, show ((x : Int) * 4294967296) = ((x * 4294967296 : Nat) : Int) by omega, wrapN, u64_or_nat _ _ (by omega) (Nat.mod_lt _ (by decide))]
theorem r64 (x : Nat) (hx : x < 2 ^ 64) : bits BinOp.or IntKind.u64
      (bits BinOp.or IntKind.u64
          (bits BinOp.and IntKind.u64
            (bits BinOp.or IntKind.u64 (bits BinOp.and IntKind.u64 ((x : Int) / 256) 71777214294589695)
                (IntKind.u64.wrap (bits BinOp.and IntKind.u64 (x : Int) 71777214294589695 * 256)) /
              65536)
            281470681808895)
          (IntKind.u64.wrap
            (bits BinOp.and IntKind.u64
                (bits BinOp.or IntKind.u64 (bits BinOp.and IntKind.u64 ((x : Int) / 256) 71777214294589695)
                  (IntKind.u64.wrap (bits BinOp.and IntKind.u64 (x : Int) 71777214294589695 * 256)))
                281470681808895 *
              65536)) /
        4294967296)
      (IntKind.u64.wrap
        (bits BinOp.or IntKind.u64
            (bits BinOp.and IntKind.u64
              (bits BinOp.or IntKind.u64 (bits BinOp.and IntKind.u64 ((x : Int) / 256) 71777214294589695)
                  (IntKind.u64.wrap (bits BinOp.and IntKind.u64 (x : Int) 71777214294589695 * 256)) /
                65536)
              281470681808895)
            (IntKind.u64.wrap
              (bits BinOp.and IntKind.u64
                  (bits BinOp.or IntKind.u64 (bits BinOp.and IntKind.u64 ((x : Int) / 256) 71777214294589695)
                    (IntKind.u64.wrap (bits BinOp.and IntKind.u64 (x : Int) 71777214294589695 * 256)))
                  281470681808895 *
                65536)) *
          4294967296)) = ((turnN 8 x : Nat) : Int) := by
  obtain ⟨b0, b1, b2, b3, b4, b5, b6, b7, h0, h1, h2, h3, h4, h5, h6, h7, e, t⟩ := bytes8 x
  rw [Nat.mod_eq_of_lt hx] at e
  rw [c64a x hx, t, e, sw64a _ _ _ _ _ _ _ _ h0 h1 h2 h3 h4 h5 h6 h7]
  have hl : num [b1, b0, b3, b2, b5, b4, b7, b6] < 2 ^ 64 := Nat.lt_of_lt_of_eq (num_lt [b1, b0, b3, b2, b5, b4, b7, b6] (by simp; omega)) (by simp)
  rw [c64b _ hl, sw64b _ _ _ _ _ _ _ _ h1 h0 h3 h2 h5 h4 h7 h6]
  have hl : num [b3, b2, b1, b0, b7, b6, b5, b4] < 2 ^ 64 := Nat.lt_of_lt_of_eq (num_lt [b3, b2, b1, b0, b7, b6, b5, b4] (by simp; omega)) (by simp)
  rw [c64c _ hl, sw64c _ _ _ _ _ _ _ _ h3 h2 h1 h0 h7 h6 h5 h4]
theorem turn_round (x k : Nat) (hk : k < 8) : IntKind.u64.wrap (IntKind.u64.wrap (256 * ((turnN k x : Nat) : Int)) + ((x : Int) / 2 ^ (8 * k)).tmod 256) = ((turnN (k + 1) x : Nat) : Int) := by
  have h1 : (x : Int) / 2 ^ (8 * k) = ((x / 2 ^ (8 * k) : Nat) : Int) := by simp
  have h3 := turnN_lt k x
  have h4 : 256 ^ k ≤ 256 ^ 7 := Nat.pow_le_pow_right (by decide) (by omega)
  rw [h1, Int.tmod_eq_emod_of_nonneg (Int.natCast_nonneg _)]
  simp only [turnN]
  generalize x / 2 ^ (8 * k) = q at *
  have h5 : q % 256 < 256 := Nat.mod_lt _ (by decide)
  rw [show (256 * ((turnN k x : Nat) : Int)) = ((256 * turnN k x : Nat) : Int) by omega, wrapN, Nat.mod_eq_of_lt (by omega), show (((256 * turnN k x : Nat) : Int) + (q : Int) % 256) = ((256 * turnN k x + q % 256 : Nat) : Int) by omega, wrapN, Nat.mod_eq_of_lt (by omega)]
end Go.Proofs.Ytdpnhpennceldaa
