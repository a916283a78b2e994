/-
  RegionLittle: the walk of the law.
-/
import Derived.Test.YtmjeloinibembaaKn8
namespace Go.Proofs.Ytmjeloinibembaa
open Go.RowKit
set_option linter.unusedVariables false
set_option linter.unusedSimpArgs false
theorem numB_lay (f : Nat → Nat) (x o k : Nat) (h : ∀ i, i < k → f i = x / 2 ^ (8 * (o + i)) % 256) : numB f k = x / 2 ^ (8 * o) % 2 ^ (8 * k) := by
  induction k with
  | zero => simp [numB, Nat.mod_one]
  | succ k ih =>
    rw [numB, ih (fun i hi => h i (by omega)), h k (by omega)]
    have e1 : 2 ^ (8 * (o + k)) = 2 ^ (8 * o) * 2 ^ (8 * k) := by rw [← Nat.pow_add]; congr 1; omega
    have e2 : 2 ^ (8 * (k + 1)) = 2 ^ (8 * k) * 256 := by rw [show 8 * (k + 1) = 8 * k + 8 by omega, Nat.pow_add]
    rw [e1, e2, ← Nat.div_div_eq_div_mul, Nat.mod_mul, Nat.mul_comm (x / 2 ^ (8 * o) / 2 ^ (8 * k) % 256)]
theorem piece_mod {x m k : Nat} (hk : k < 8) : ((x : Int) / 2 ^ (8 * m)).tmod (IntKind.u64.wrap (2 ^ (8 * k))) = ((x / 2 ^ (8 * m) % 2 ^ (8 * k) : Nat) : Int) := by
  have h1 : (2 : Nat) ^ (8 * k) ≤ 2 ^ 56 := Nat.pow_le_pow_right (by decide) (by omega)
  have e1 : ((2 : Int) ^ (8 * k)) = ((2 ^ (8 * k) : Nat) : Int) := by simp
  have e2 : ((2 : Int) ^ (8 * m)) = ((2 ^ (8 * m) : Nat) : Int) := by simp
  rw [e1, e2, IntKind.wrap_u64, Int.emod_eq_of_lt (Int.natCast_nonneg _) (by omega), ← Int.natCast_ediv, Int.tmod_eq_emod_of_nonneg (Int.natCast_nonneg _), ← Int.natCast_emod]
theorem piece_nz {k : Nat} (hk : k < 8) : (IntKind.u64.wrap (2 ^ (8 * k)) == 0) = false := by
  have h1 : (2 : Nat) ^ (8 * k) ≤ 2 ^ 56 := Nat.pow_le_pow_right (by decide) (by omega)
  have h2 : 0 < (2 : Nat) ^ (8 * k) := Nat.two_pow_pos _
  have e1 : ((2 : Int) ^ (8 * k)) = ((2 ^ (8 * k) : Nat) : Int) := by simp
  rw [e1, IntKind.wrap_u64, Int.emod_eq_of_lt (Int.natCast_nonneg _) (by omega)]
  simp only [beq_eq_false_iff_ne]; omega
set_option maxRecDepth 100000 in
set_option maxHeartbeats 8000000 in
theorem little (x : Nat) (a1 : Int) (hx : x < 2 ^ 64) (w : World) :
    Calls Try.prog 8 #[.int .u64 x, .int .i64 a1] w fun e w' => e = .returned (.bool true) ∧ Below w.heap.size w w' := by
  have hx' := Lib.hid hx
  clear hx
  go_enter Try.func8, Try.ntmps8
  go_wp2_with fail
  refine (f39_ok w).mono ?_; rintro e w1 ⟨rfl, hb1⟩
  have hb1' := Lib.hid hb1
  go_wp2_with fail
  all_goals try (go_ret; exact ⟨rfl, hb1⟩)
  clear hb1
  obtain ⟨o, ho⟩ : ∃ o : Nat, a1 = o := ⟨a1.toNat, by omega⟩
  subst ho
  have ho20 : Hid (o ≤ 20) := Lib.hid (by omega)
  refine (f14_ok w1).mono ?_; rintro e w2 ⟨rfl, hw2⟩
  have hM2 : Hid (MemRow w1.heap.size w2 w1.heap.size (.slice none 0 0) []) := Lib.hid (hw2 ▸ MemRow.new w1)
  have hb2 : Hid (Below w1.heap.size w1 w2) := Lib.hid (hw2 ▸ Below.one _)
  clear hw2
  obtain ⟨w3, hmk, hbt, hth, hk5, hb3, hlt⟩ := make_bytes w2 (n := 28) (v := 28) (by decide) rfl
  have hBT := Lib.hid hbt
  have hM3 := Lib.hid (hM2.out.below hb3)
  have hB3 : Hid (Below w1.heap.size w1 w3) := Lib.hid (below_then hb2.out hb3)
  clear hbt hth hk5 hb3 hlt
  go_wp2_with fail
  refine (f43_ok w1.heap.size w3 hM3 (Lib.hid (by decide)) (Lib.hid hB3.out.size) hBT (Lib.hid (by decide)) (Lib.hid fun i hi => by decide) true).mono ?_; rintro e w4 ⟨rb, bb, v4, rfl, M4, R4, hrb, hbb, O4⟩
  have hM4 := Lib.hid M4
  have hR4 := Lib.hid R4
  have hB4 : Hid (Below w1.heap.size w1 w4) := Lib.hid (hB3.out.trans (O4.belowN hB3.out.size (fun k hk he => by
    rcases he with rfl | he
    · omega
    · simp [Value.ownBlock] at he)))
  have hrb' : Hid (w1.heap.size ≤ rb ∧ w1.heap.size ≤ bb) := Lib.hid (by have := hB3.out.size; omega)
  clear M4 R4 O4 hmk hrb hbb
  have hM5 : Hid (∀ ob, MemRow w1.heap.size (w4.alloc ob) w1.heap.size v4 ([] ++ [(false, rb)])) := Lib.hid fun ob => hM4.out.below (Below.one ob)
  have hR5 : Hid (∀ ob, RegAt (w4.alloc ob) rb bb false true 28 (fun _ => 0)) := Lib.hid fun ob => hR4.out.below.out _ (Below.one ob)
  have hB5 : Hid (∀ ob, Below w1.heap.size w1 (w4.alloc ob)) := Lib.hid fun ob => below_then hB4.out (Below.one ob)
  go_wp2_with fail
  refine (st_reg (Lib.hid (hM5.out _)) (i := 1) (j := 0) (Lib.hid (by decide)) (Lib.hid (hR5.out _)) (Lib.hid rfl) (o := o) (k := 8) (Lib.hid (by decide)) (.int .u64 0) (Lib.hid (by have := ho20.out; omega)) hx'.out 0 0).mono ?_; rintro e w6 ⟨rfl, O6, R6, M6⟩
  have hM6 := Lib.hid M6
  simp only [if_true] at R6 ⊢
  have hR6 := Lib.hid R6
  have hB6 : Hid (Below w1.heap.size w1 w6) := Lib.hid ((hB5.out _).trans (O6.belowN (hB5.out _).size (fun k hk he => by have := hrb'.out; omega)))
  clear M6 R6 O6 hM5 hR5 hB5 hM4 hR4 hB4 hM3 hB3 hBT hM2 hb2
  go_wp2_with fail
  go_loopw [8] (fun v wr => ∃ k : Nat, (k = 1 ∨ k = 2 ∨ k = 4 ∨ k = 8 ∨ k = 16) ∧ v = .int .i64 k ∧ Hid (Below w6.heap.size w6 wr)) (fun v _ => 16 - (intOf v).toNat)
  case atStart => exact ⟨1, .inl rfl, rfl, Lib.hid (Below.refl _ _)⟩
  case round =>
    obtain ⟨k, hk, rfl, hbr⟩ := hrel
    by_cases hk16 : k = 16
    · subst hk16
      go_wp2_with fail
      go_ret
      exact ⟨rfl, below_then hb1'.out (below_then hB6.out hbr.out)⟩
    · have hk4 : Hid (k = 1 ∨ k = 2 ∨ k = 4 ∨ k = 8) := Lib.hid (by omega)
      have hle : (k : Int) ≤ 8 := by omega
      clear hk hk16
      go_wp2_with fail
      go_loopw [9] (fun v w7 => ∃ m : Nat, m ≤ 8 ∧ v = .int .i64 m ∧ Hid (Below w6.heap.size w6 w7)) (fun v _ => 16 - (intOf v).toNat)
      case atStart => exact ⟨0, by omega, rfl, hbr⟩
      case round =>
        obtain ⟨m, hm, rfl, hbm⟩ := hrel
        have hk8 : Hid (1 ≤ k ∧ k ≤ 8) := Lib.hid (by have := hk4.out; omega)
        have ho2 := ho20.out
        have hk82 := hk8.out
        by_cases hmk : m + k ≤ 8
        · have hmk2 : (m : Int) + k ≤ 8 := by omega
          have hM7 := Lib.hid (hM6.out.below hbm.out)
          have hR7 := Lib.hid (hR6.out.below.out _ hbm.out)
          have hnum : Hid (numB (fun i => layB (fun _ => 0) o 8 x (o + m + i)) k = x / 2 ^ (8 * m) % 2 ^ (8 * k)) := Lib.hid (numB_lay _ x m k fun i hi => by
            simp only [layB]
            rw [if_pos (by omega), show o + m + i - o = m + i by omega])
          clear hM6 hR6
          obtain ⟨y, hy⟩ : ∃ y, Hid (x / 2 ^ (8 * m) % 2 ^ (8 * k) = y) := ⟨_, Lib.hid rfl⟩
          by_cases hkl : (k : Int) < 8
          · have hE : ((x : Int) / 2 ^ (8 * m)).tmod (IntKind.u64.wrap (2 ^ (8 * k))) = (y : Int) := by rw [piece_mod (by omega), hy.out]
            have hz := piece_nz (k := k) (by omega)
            have hz2 : ¬ IntKind.u64.wrap (2 ^ (8 * k)) = 0 := by simpa using hz
            go_wp2_with fail
            rw [show ((o : Int) + (m : Int)) = ((o + m : Nat) : Int) by omega]
            refine (ld_reg hM7 (i := 1) (j := 0) (Lib.hid (by decide)) hR7 (Lib.hid rfl) (o := o + m) (k := k) hk4 (.int .u64 0) (Lib.hid (by omega))).mono ?_; rintro e w8 ⟨rfl, hb8⟩
            rw [hnum.out, hy.out]
            have hb9 : Hid (∀ ob, Below w6.heap.size w6 (w8.alloc ob)) := Lib.hid fun ob => below_then hbm.out (below_then hb8 (Below.one ob))
            clear hb8
            go_wp2_with fail
            go_roundw
            case rel => exact ⟨m + k, by omega, by go_num, Lib.hid (hb9.out _)⟩
            case measure => simp [intOf]; omega
          · have hE : ((x : Int) / 2 ^ (8 * m)) = (y : Int) := by
              rw [← hy.out, show k = 8 by omega, show m = 0 by omega]
              have := hx'.out
              simp only [Nat.mul_zero, Nat.pow_zero, Nat.div_one]
              omega
            go_wp2_with fail
            rw [show ((o : Int) + (m : Int)) = ((o + m : Nat) : Int) by omega]
            refine (ld_reg hM7 (i := 1) (j := 0) (Lib.hid (by decide)) hR7 (Lib.hid rfl) (o := o + m) (k := k) hk4 (.int .u64 0) (Lib.hid (by omega))).mono ?_; rintro e w8 ⟨rfl, hb8⟩
            rw [hnum.out, hy.out]
            have hb9 : Hid (∀ ob, Below w6.heap.size w6 (w8.alloc ob)) := Lib.hid fun ob => below_then hbm.out (below_then hb8 (Below.one ob))
            clear hb8
            go_wp2_with fail
            go_roundw
            case rel => exact ⟨m + k, by omega, by go_num, Lib.hid (hb9.out _)⟩
            case measure => simp [intOf]; omega
        · have hmk2 : ¬ ((m : Int) + k ≤ 8) := by omega
          go_wp2_with fail
          go_roundw
          case rel => exact ⟨2 * k, by have := hk4.out; omega, by go_num, hbm⟩
          case measure => simp [intOf]; omega
theorem regionLittle_walk (a0 a1 : Int) (w0 : (Lit.int .u64 a0).wf = true) (w1 : (Lit.int .i64 a1).wf = true) (w : World) :
    Calls Try.prog 8 #[.int .u64 a0, .int .i64 a1] w fun e w' => e = .returned (.bool true) ∧ Below w.heap.size w w' := by
  have h := bounds_u64 w0
  obtain ⟨x, rfl⟩ : ∃ x : Nat, a0 = x := ⟨a0.toNat, by omega⟩
  exact little x a1 (by omega) w
end Go.Proofs.Ytmjeloinibembaa
