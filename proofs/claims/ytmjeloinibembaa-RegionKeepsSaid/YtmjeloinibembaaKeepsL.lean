/-
  RegionKeeps: the walk of the law (plain laws).
-/
import Derived.Test.YtmjeloinibembaaKn8
namespace Go.Proofs.Ytmjeloinibembaa
open Go.RowKit
set_option linter.unusedVariables false
set_option linter.unusedSimpArgs false
theorem mem_no {B : Nat} {w : World} {mb : Nat} {v : Value} {l : List (Bool × Nat)} (M : MemRow B w mb v l) {k e : Nat} (hk : KindAt w k e) (h83 : e ≠ 83) (h90 : e ≠ 90) : ¬ (k = mb ∨ v.ownBlock = some k) := fun h => by
  rcases h with rfl | h
  · exact h83 (hk.inj M.kind)
  · exact h90 (hk.inj (own_kind M.own h).1)
theorem boxes3 {w : World} {v0 v1 v2 v3 u0 u1 u2 u3 t0 t1 t2 t3 : Value} : ∃ W, Hid (W = ((w.alloc (.cells #[v0, v1, v2, v3] 63)).alloc (.cells #[u0, u1, u2, u3] 63)).alloc (.cells #[t0, t1, t2, t3] 63)) ∧ Box W w.heap.size v0 v1 v2 v3 ∧ Box W (w.heap.size + 1) u0 u1 u2 u3 ∧ Box W (w.heap.size + 1 + 1) t0 t1 t2 t3 ∧ Below w.heap.size w W := by
  obtain ⟨W2, hW2, h1, h2, h3⟩ := boxes (w := w) (v0 := v0) (v1 := v1) (v2 := v2) (v3 := v3) (u0 := u0) (u1 := u1) (u2 := u2) (u3 := u3)
  have h4 := Box.new (w := W2) (v0 := t0) (v1 := t1) (v2 := t2) (v3 := t3)
  have hs : W2.heap.size = w.heap.size + 1 + 1 := by rw [hW2.out]; simp
  rw [hs] at h4
  exact ⟨W2.alloc (.cells #[t0, t1, t2, t3] 63), Lib.hid (by rw [hW2.out]), h1.below (Below.one _), h2.below (Below.one _), h4, below_then h3 (Below.one _)⟩
theorem wrote_tag (F : FS) (o n : Nat) (g : Nat → Nat) (s : Nat) : (wrote F o n g).tag s = F.tag s := by
  show (wipe F _ _).tag s = F.tag s
  rw [wipe_tag]
theorem wrote_has (F : FS) (o n : Nat) (g : Nat → Nat) (s : Nat) : (wrote F o n g).has s = if o / 8 ≤ s ∧ s < o / 8 + ((o + n - 1) / 8 + 1 - o / 8) then false else F.has s := by
  show (wipe F _ _).has s = _
  rw [wipe_has]
theorem wrote_none {F : FS} {o n : Nat} {g : Nat → Nat} (h : ∀ s, F.has s = false) (s : Nat) : (wrote F o n g).has s = false := by
  rw [wrote_has, h]; split <;> rfl
theorem wrote_wr (F : FS) (o n : Nat) (g : Nat → Nat) (j : Nat) : (wrote F o n g).wr j = if o ≤ j ∧ j < o + n then true else if o / 8 ≤ j / 8 ∧ j / 8 < o / 8 + ((o + n - 1) / 8 + 1 - o / 8) ∧ F.has (j / 8) = true then false else F.wr j := by
  show (if o ≤ j ∧ j < o + n then true else (wipe F _ _).wr j) = _
  rw [wipe_wr]
theorem wrote_b (F : FS) (o n : Nat) (g : Nat → Nat) (j : Nat) : (wrote F o n g).b j = if o ≤ j ∧ j < o + n then g (j - o) else F.b j := rfl
theorem read_ok {F : FS} {o n : Nat} (ht : ∀ s, F.tag s = 0) (hh : ∀ s, F.has s = false) (hw : ∀ k, k < n → F.wr (o + k) = true) : readT F o n = 0 := by
  unfold readT
  rw [tagT_no ht, hasT_no hh, show wrT F o n = true from decide_eq_true hw]; rfl
theorem read_un {F : FS} {o n : Nat} (ht : ∀ s, F.tag s = 0) (hh : hasT F o n = false) (hw : wrT F o n = false) : readT F o n = 1 := by
  unfold readT
  rw [tagT_no ht, hh, hw]; rfl
theorem numB_lay (f : Nat → Nat) (x o k : Nat) (h : ∀ i, i < k → f i = x / 2 ^ (8 * (o + i)) % 256) : numB f k = x / 2 ^ (8 * o) % 2 ^ (8 * k) := by
  induction k with
  | zero => simp [numB, Nat.mod_one]
  | succ k ih =>
    rw [numB, ih (fun i hi => h i (by omega)), h k (by omega)]
    have e1 : 2 ^ (8 * (o + k)) = 2 ^ (8 * o) * 2 ^ (8 * k) := by rw [← Nat.pow_add]; congr 1; omega
    have e2 : 2 ^ (8 * (k + 1)) = 2 ^ (8 * k) * 256 := by rw [show 8 * (k + 1) = 8 * k + 8 by omega, Nat.pow_add]
    rw [e1, e2, ← Nat.div_div_eq_div_mul, Nat.mod_mul, Nat.mul_comm (x / 2 ^ (8 * o) / 2 ^ (8 * k) % 256)]
theorem numB_mod {f : Nat → Nat} {x k : Nat} (h : ∀ i, i < k → f i = x / 2 ^ (8 * i) % 256) : numB f k = x % 2 ^ (8 * k) := by
  rw [numB_lay f x 0 k (fun i hi => by rw [Nat.zero_add]; exact h i hi)]
  simp only [Nat.mul_zero, Nat.pow_zero, Nat.div_one]
def gB (x : Nat) : Nat → Nat := fun i => x / 2 ^ (8 * i) % 256
theorem read_self {F : FS} {o n : Nat} {g : Nat → Nat} (ht : ∀ s, F.tag s = 0) (hn : 0 < n) : readT (wrote F o n g) o n = 0 := by
  unfold readT
  have h1 : tagT (wrote F o n g) o n = false := tagT_no fun s => by rw [wrote_tag]; exact ht s
  have h2 : hasT (wrote F o n g) o n = false := decide_eq_false fun ⟨k, hk, hh⟩ => by
    rw [wrote_has, if_pos (by omega)] at hh
    exact absurd hh (by decide)
  have h3 : wrT (wrote F o n g) o n = true := decide_eq_true fun k hk => by
    rw [wrote_wr, if_pos (by omega)]
  rw [h1, h2, h3]; rfl
theorem num_self {F : FS} {o n x : Nat} : numB (fun i => (wrote F o n (gB x)).b (o + i)) n = x % 2 ^ (8 * n) := numB_mod fun i hi => by
  rw [wrote_b, if_pos (by omega), show o + i - o = i by omega]; rfl
theorem read_two {o1 n1 o2 n2 x y : Nat} : readT (wrote (wrote FS.zero o1 n1 (gB x)) o2 n2 (gB y)) o1 n1 = 0 :=
  read_ok (fun s => by rw [wrote_tag, wrote_tag]; rfl) (wrote_none (wrote_none fun _ => rfl)) (fun k hk => by
    rw [wrote_wr]
    split
    · rfl
    · rw [if_neg (fun h => by have := h.2.2; rw [wrote_none (fun _ => rfl)] at this; exact absurd this (by decide)), wrote_wr, if_pos (by omega)])
theorem num_two {o1 n1 o2 n2 x y : Nat} (hd : o1 + n1 ≤ o2 ∨ o2 + n2 ≤ o1) : numB (fun i => (wrote (wrote FS.zero o1 n1 (gB x)) o2 n2 (gB y)).b (o1 + i)) n1 = x % 2 ^ (8 * n1) := numB_mod fun i hi => by
  rw [wrote_b, if_neg (by omega), wrote_b, if_pos (by omega), show o1 + i - o1 = i by omega]; rfl
theorem read_zero' {o n : Nat} (hn : 0 < n) : readT FS.zero o n = 1 := read_un (fun _ => rfl) (hasT_no fun _ => rfl) (decide_eq_false fun h => absurd (h 0 hn) (by simp [FS.zero]))
theorem mem_lt {B : Nat} {w : World} {mb : Nat} {v : Value} {l : List (Bool × Nat)} (M : MemRow B w mb v l) {b : Nat} (h : mb < b) : ¬ (mb = b + 1 + 1) := by omega
theorem own_lt {B : Nat} {w : World} {mb : Nat} {v : Value} {l : List (Bool × Nat)} (M : MemRow B w mb v l) {b : Nat} (h : w.heap.size = b) : ∀ k, v.ownBlock = some k → ¬ (k = b + 1 + 1) := fun k hk he => by
  have := (own_kind M.own hk).1.lt
  omega
end Go.Proofs.Ytmjeloinibembaa
