/-
  THE WALKS of package region that stand alone: numbers of bytes, kinds, sizes.
-/
import Derived.Test.YtmjeloinibembaaBase
namespace Go.Proofs.Ytmjeloinibembaa
open Go.RowKit
set_option linter.unusedVariables false
set_option linter.unusedSimpArgs false
/-- the number of the first k of bytes. -/
def numB (f : Nat → Nat) : Nat → Nat
  | 0 => 0
  | k + 1 => numB f k + f k * 2 ^ (8 * k)
theorem numB_lt {f : Nat → Nat} {n : Nat} (h : ∀ i, i < n → f i < 256) : ∀ k, k ≤ n → numB f k < 2 ^ (8 * k)
  | 0, _ => by simp [numB]
  | k + 1, hk => by
    have h1 := numB_lt h k (by omega)
    have h2 := h k (by omega)
    have h3 : f k * 2 ^ (8 * k) ≤ 255 * 2 ^ (8 * k) := Nat.mul_le_mul_right _ (by omega)
    have h4 : 2 ^ (8 * (k + 1)) = 256 * 2 ^ (8 * k) := by rw [show 8 * (k + 1) = 8 + 8 * k by omega, Nat.pow_add]
    simp only [numB]; omega

set_option maxHeartbeats 400000 in
theorem f56_ok (k : Int) (n o : Value) (i : Value) (w : World) (hk : k = 2 ∨ k = 5) :
    Calls Try.prog 56 #[.agg #[.int .i64 k, n, i, o]] w fun e w' => e = .returned (.int .i64 0) ∧ Below w.heap.size w w' := by
  rcases hk with rfl | rfl
  all_goals
    go_enter Try.func56, Try.ntmps56
    go_wp2_with fail
    go_ret
    exact ⟨rfl, Below.one _⟩
set_option maxHeartbeats 400000 in
theorem f57_ok (k : Int) (w : World) (hk : k = 1 ∨ k = 2 ∨ k = 4 ∨ k = 8) :
    Calls Try.prog 57 #[.int .i64 k] w fun e w' => e = .returned (.bool true) ∧ w = w' := by
  rcases hk with rfl | rfl | rfl | rfl
  all_goals
    go_enter Try.func57, Try.ntmps57
    go_wp2_with fail
    go_ret
    exact ⟨rfl, rfl⟩

theorem or_join {i x y : Nat} (hx : x % 2 ^ i = 0) (hy : y < 2 ^ i) : x ||| y = x + y := by
  obtain ⟨q, rfl⟩ : ∃ q, x = 2 ^ i * q := ⟨x / 2 ^ i, by have := Nat.div_add_mod x (2 ^ i); omega⟩
  exact (Nat.two_pow_add_eq_or_of_lt hy q).symm
theorem num_step (f : Nat → Nat) (n k : Nat) (hf : ∀ i, i < n → f i < 256) (hk : k < n) (hn : n ≤ 8) :
    bits BinOp.or IntKind.u64 ((numB f k : Nat) : Int) (IntKind.u64.wrap (IntKind.u64.wrap (f k : Int) * 2 ^ (8 * k))) = ((numB f (k + 1) : Nat) : Int) := by
  have h0 := hf k hk
  rw [show IntKind.u64.wrap (f k : Int) = (f k : Int) by rw [IntKind.wrap_u64]; omega]
  have h1 := numB_lt hf k (by omega)
  have h2 := numB_lt hf (k + 1) (by omega)
  have h3 : 2 ^ (8 * (k + 1)) ≤ 2 ^ 64 := Nat.pow_le_pow_right (by decide) (by omega)
  have h4 : 2 ^ (8 * k) ≤ 2 ^ 64 := Nat.pow_le_pow_right (by decide) (by omega)
  have h5 : f k * 2 ^ (8 * k) < 2 ^ 64 := by simp only [numB] at h2; omega
  have e : ((f k : Int) * 2 ^ (8 * k)) = ((f k * 2 ^ (8 * k) : Nat) : Int) := by simp
  rw [e, IntKind.wrap_u64, Int.emod_eq_of_lt (Int.natCast_nonneg _) (by omega), u64_or_nat _ _ (by omega) (by omega), Nat.or_comm, or_join (Nat.mul_mod_left _ _) h1]
  simp only [numB]; rw [Nat.add_comm]

set_option maxHeartbeats 1000000 in
theorem f91_ok (w : World) (b o n c : Nat) (f : Nat → Nat) (hn : n ≤ 8) (hf : ∀ i, i < n → f i < 256) (hb : Bts w b o n f) :
    Calls Try.prog 91 #[.slice (some ⟨b, o, none⟩) n c] w fun e w' => e = .returned (.int .u64 (numB f n : Nat)) ∧ w = w' := by
  have HB := Lib.hid hb
  have HF := Lib.hid hf
  clear hb hf
  go_enter Try.func91, Try.ntmps91
  go_wp2_with fail
  go_loop [3, 8] (fun v i => ∃ k : Nat, k ≤ n ∧ i = .int .i64 k ∧ v = .int .u64 (numB f k : Nat)) (fun _ i => n - (intOf i).toNat)
  case atStart => exact ⟨0, Nat.zero_le _, rfl, rfl⟩
  case round =>
    obtain ⟨k, hk, rfl, rfl⟩ := hrel
    by_cases hlt : k < n
    · have hc := HB.out k hlt
      have hv := num_step f n k HF.out hlt hn
      have hv' := Lib.hid hv
      clear hv
      go_wp2_with fail
      go_round
      case rel => exact ⟨k + 1, by omega, by go_num, congrArg _ hv'.out⟩
      case measure => simp [intOf]; omega
    · have : k = n := by omega
      subst this
      go_wp2_with fail
      go_ret
      exact ⟨rfl, rfl⟩
set_option maxHeartbeats 1000000 in
theorem f93_ok (w : World) (b o n c x : Nat) (f : Nat → Nat) (hn : n ≤ 8) (hx : x < 2 ^ 64) (hb : Bts w b o n f) (ht : Thaw w b) :
    Calls Try.prog 93 #[.slice (some ⟨b, o, none⟩) n c, .int .u64 x] w fun e w' => e = .returned (.tuple #[]) ∧ Only (· = b) w w' ∧ Bts w' b o n (fun i => x / 2 ^ (8 * i) % 256) ∧ Thaw w' b ∧ ∀ j, ¬ (o ≤ j ∧ j < o + n) → w'.cell? ⟨b, j, none⟩ = w.cell? ⟨b, j, none⟩ := by
  have HB := Lib.hid hb
  have HT := Lib.hid ht
  clear hb ht
  go_enter Try.func93, Try.ntmps93
  go_wp2_with fail
  go_loopw [7] (fun i wr => ∃ k : Nat, k ≤ n ∧ i = .int .i64 k ∧ Only (· = b) w wr ∧ Hid (Thaw wr b) ∧ Hid (∀ j, j < k → wr.cell? ⟨b, o + j, none⟩ = some (.int .u8 ((x / 2 ^ (8 * j) % 256 : Nat) : Int))) ∧ Hid (∀ j, ¬ (o ≤ j ∧ j < o + k) → wr.cell? ⟨b, j, none⟩ = w.cell? ⟨b, j, none⟩)) (fun i _ => n - (intOf i).toNat)
  case atStart => exact ⟨0, Nat.zero_le _, rfl, Only.refl _ _, HT, Lib.hid fun j hj => absurd hj (by omega), Lib.hid fun j hj => rfl⟩
  case round =>
    obtain ⟨k, hk, rfl, ho, ht, h1, h2⟩ := hrel
    by_cases hlt : k < n
    · have hc := (h2.out (o + k) (by omega)).trans (HB.out k hlt)
      have hz := ht.out (o + k)
      go_wp2_with fail
      go_roundw
      case rel => 
        have ev : ((x / 2 ^ (8 * k) % 256 : Nat) : Int) = (x : Int) / 2 ^ (8 * k) % 256 := by simp
        refine ⟨k + 1, by omega, by go_num, ho.setCell (fun _ => rfl) _, Lib.hid (ht.out.setCell _ _), Lib.hid fun j hj => ?_, Lib.hid fun j hj => ?_⟩
        · by_cases hjk : j = k
          · subst hjk; rw [← ev]; exact cell_same _ hc
          · rw [cell_ne _ (.inr (by omega))]; exact h1.out j (by omega)
        · rw [cell_ne _ (.inr (by omega))]; exact h2.out j (by omega)
      case measure => simp [intOf]; omega
    · have : k = n := by omega
      subst this
      go_wp2_with fail
      go_returns
      exact ⟨rfl, ho, h1.out, ht.out, h2.out⟩
end Go.Proofs.Ytmjeloinibembaa
