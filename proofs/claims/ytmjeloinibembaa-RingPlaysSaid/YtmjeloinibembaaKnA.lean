/-
  THE KNOWN RING (known of law 10).
-/
import Derived.Test.YtmjeloinibembaaRingI
namespace Go.Proofs.Ytmjeloinibembaa
open Go.RowKit
set_option linter.unusedVariables false
set_option linter.unusedSimpArgs false
set_option maxRecDepth 100000 in
set_option maxHeartbeats 4000000 in
theorem f12_ok (w : World) : Calls Try.prog 12 #[] w fun e w' => e = .returned (.bool true) ∧ Below w.heap.size w w' := by
  go_enter Try.func12, Try.ntmps12
  go_wp2_with fail
  refine (f14_ok w).mono ?_; rintro e w1 ⟨rfl, hw1⟩
  have hw1_ := hw1
  clear hw1
  have hw1 := Lib.hid hw1_
  clear hw1_
  go_wp2_with fail
  refine (new_ok w1 (size := 32) (by decide) (by decide) (by decide) hw1.out rfl).mono ?_; rintro e w2 ⟨R, rg, rfl, hrg, hsz, hmb, hrows, hrs, hR, hB⟩
  clear hmb
  have hrg_ := hrg
  clear hrg
  have hrg := Lib.hid hrg_
  clear hrg_
  have hsz_ := hsz
  clear hsz
  have hsz := Lib.hid hsz_
  clear hsz_
  have hrows_ := hrows
  clear hrows
  have hrows := Lib.hid hrows_
  clear hrows_
  have hrs_ := hrs
  clear hrs
  have hrs := Lib.hid hrs_
  clear hrs_
  have hR_ := hR
  clear hR
  have hR := Lib.hid hR_
  clear hR_
  have hB_ := hB
  clear hB
  have hB := Lib.hid hB_
  clear hB_
  have low : Hid (∀ k, ¬ k < w.heap.size → ¬ k < w.heap.size) := Lib.hid fun _ h => h
  go_wp2_with fail
  refine (reserve_ok w2 hR hrg (n := 8) (Lib.hid (by decide)) (Lib.hid (by rw [hrows.out, hsz.out]; decide)) (Lib.hid (by rw [hrs.out]; decide))).mono ?_; rintro e w3 ⟨d1, rfl, hd1, hO3, R3, xa, ra, ba, hR3, hS3, hrows3, hrs3⟩
  rw [hrs.out] at hd1
  rw [hrows.out] at hrows3
  rw [hrs.out] at hrs3
  have hsz3 := hS3.2.1.trans hsz.out
  have hrg3 := hS3.1.trans hrg.out
  clear hS3
  have hd1_ := hd1
  clear hd1
  have hd1 := Lib.hid hd1_
  clear hd1_
  have hO3_ := hO3
  clear hO3
  have hO3 := Lib.hid hO3_
  clear hO3_
  have hR3_ := hR3
  clear hR3
  have hR3 := Lib.hid hR3_
  clear hR3_
  have hrows3_ := hrows3
  clear hrows3
  have hrows3 := Lib.hid hrows3_
  clear hrows3_
  have hrs3_ := hrs3
  clear hrs3
  have hrs3 := Lib.hid hrs3_
  clear hrs3_
  have hsz3_ := hsz3
  clear hsz3
  have hsz3 := Lib.hid hsz3_
  clear hsz3_
  have hrg3_ := hrg3
  clear hrg3
  have hrg3 := Lib.hid hrg3_
  clear hrg3_
  go_wp2_with fail
  refine (reserve_ok w3 hR3 hrg3 (n := 8) (Lib.hid (by decide)) (Lib.hid (by rw [hrows3.out, hsz3.out]; simp [usedN, takesN])) (Lib.hid (by rw [hrs3.out]; simp))).mono ?_; rintro e w4 ⟨d2, rfl, hd2, hO4, R4, xb, rb, bb, hR4, hS4, hrows4, hrs4⟩
  rw [hrs3.out] at hd2
  rw [hrows3.out] at hrows4
  rw [hrs3.out] at hrs4
  have hsz4 := hS4.2.1.trans hsz3.out
  have hrg4 := hS4.1.trans hrg3.out
  clear hS4
  have hd2_ := hd2
  clear hd2
  have hd2 := Lib.hid hd2_
  clear hd2_
  have hO4_ := hO4
  clear hO4
  have hO4 := Lib.hid hO4_
  clear hO4_
  have hR4_ := hR4
  clear hR4
  have hR4 := Lib.hid hR4_
  clear hR4_
  have hrows4_ := hrows4
  clear hrows4
  have hrows4 := Lib.hid hrows4_
  clear hrows4_
  have hrs4_ := hrs4
  clear hrs4
  have hrs4 := Lib.hid hrs4_
  clear hrs4_
  have hsz4_ := hsz4
  clear hsz4
  have hsz4 := Lib.hid hsz4_
  clear hsz4_
  have hrg4_ := hrg4
  clear hrg4
  have hrg4 := Lib.hid hrg4_
  clear hrg4_
  go_wp2_with fail
  refine (reserve_full w4 hR4 hrg4 (n := 1) (Lib.hid (by decide)) (Lib.hid (by rw [hrows4.out, hsz4.out]; simp [usedN, takesN]))).mono ?_; rintro e w5 ⟨rfl, hO5, hR5⟩
  have hO5_ := hO5
  clear hO5
  have hO5 := Lib.hid hO5_
  clear hO5_
  have hR5_ := hR5
  clear hR5
  have hR5 := Lib.hid hR5_
  clear hR5_
  go_wp2_with fail
  refine (submit_ok w5 hR5 hrg4 (r := ⟨xb, d2, 8, 0, 0, fun _ => 0⟩) (Lib.hid (by rw [hrows4.out]; simp)) (Lib.hid rfl) (Lib.hid rfl)).mono ?_; rintro e w6 ⟨rfl, hO6, R6, x6, bs6, hR6, hS6, hx6, hxd6, hxn6, hrows6, hrs6⟩
  have h1 : d1 = 1 := hd1.out
  have h2 : d2 = 2 := hd2.out
  rw [hrows4.out] at hrows6
  have hsz6 := hS6.2.1.trans hsz4.out
  have hrg6 := hS6.1.trans hrg4.out
  have hrows6' : R6.rows = [⟨xa, d1, 8, 0, 0, fun _ => 0⟩, ⟨xb, d2, 8, 1, bs6, x6.f⟩] := by rw [hrows6]; simp [Rec.fin, h1, h2]
  clear hS6 hx6 hxd6 hxn6 hrows6 hrs6 h1 h2
  have hO6_ := hO6
  clear hO6
  have hO6 := Lib.hid hO6_
  clear hO6_
  have hR6_ := hR6
  clear hR6
  have hR6 := Lib.hid hR6_
  clear hR6_
  have hsz6_ := hsz6
  clear hsz6
  have hsz6 := Lib.hid hsz6_
  clear hsz6_
  have hrg6_ := hrg6
  clear hrg6
  have hrg6 := Lib.hid hrg6_
  clear hrg6_
  have hrows6'_ := hrows6'
  clear hrows6'
  have hrows6' := Lib.hid hrows6'_
  clear hrows6'_
  go_wp2_with fail
  refine (read_ok w6 hR6 hrg6).mono ?_; rintro e w7 ⟨a7, n7, c7, rfl, hO7, R7, tk7, rest7, hn7, h7a, h7b, h7c, -, hR7, hS7, hrows7, hrs7, -⟩
  rw [hrows6'.out] at h7a
  obtain rfl : tk7 = [] := by
    rcases tk7 with _ | ⟨y, tk7⟩
    · rfl
    · simp only [List.cons_append, List.cons.injEq] at h7a
      exact absurd (h7a.1 ▸ rfl) (h7b y (by simp))
  obtain rfl : n7 = 0 := hn7
  rw [List.nil_append] at h7a
  rw [← h7a] at hrows7
  have hsz7 := hS7.2.1.trans hsz6.out
  have hrg7 := hS7.1.trans hrg6.out
  clear hS7 h7a h7b h7c hrs7
  have hO7_ := hO7
  clear hO7
  have hO7 := Lib.hid hO7_
  clear hO7_
  have hR7_ := hR7
  clear hR7
  have hR7 := Lib.hid hR7_
  clear hR7_
  have hsz7_ := hsz7
  clear hsz7
  have hsz7 := Lib.hid hsz7_
  clear hsz7_
  have hrg7_ := hrg7
  clear hrg7
  have hrg7 := Lib.hid hrg7_
  clear hrg7_
  have hrows7_ := hrows7
  clear hrows7
  have hrows7 := Lib.hid hrows7_
  clear hrows7_
  go_wp2_with fail
  refine (submit_ok w7 hR7 hrg7 (r := ⟨xa, d1, 8, 0, 0, fun _ => 0⟩) (Lib.hid (by rw [hrows7.out]; simp)) (Lib.hid rfl) (Lib.hid rfl)).mono ?_; rintro e w8 ⟨rfl, hO8, R8, x8, bs8, hR8, hS8, hx8, hxd8, hxn8, hrows8, hrs8⟩
  have h1 : d1 = 1 := hd1.out
  have h2 : d2 = 2 := hd2.out
  rw [hrows7.out] at hrows8
  have hsz8 := hS8.2.1.trans hsz7.out
  have hrg8 := hS8.1.trans hrg7.out
  have hrows8' : R8.rows = [⟨xa, d1, 8, 1, bs8, x8.f⟩, ⟨xb, d2, 8, 1, bs6, x6.f⟩] := by rw [hrows8]; simp [Rec.fin, h1, h2]
  clear hS8 hx8 hxd8 hxn8 hrows8 hrs8 h1 h2
  have hO8_ := hO8
  clear hO8
  have hO8 := Lib.hid hO8_
  clear hO8_
  have hR8_ := hR8
  clear hR8
  have hR8 := Lib.hid hR8_
  clear hR8_
  have hsz8_ := hsz8
  clear hsz8
  have hsz8 := Lib.hid hsz8_
  clear hsz8_
  have hrg8_ := hrg8
  clear hrg8
  have hrg8 := Lib.hid hrg8_
  clear hrg8_
  have hrows8'_ := hrows8'
  clear hrows8'
  have hrows8' := Lib.hid hrows8'_
  clear hrows8'_
  go_wp2_with fail
  refine (read_ok w8 hR8 hrg8).mono ?_; rintro e w9 ⟨a9, n9, c9, rfl, hO9, R9, tk9, rest9, hn9, h9a, h9b, h9c, -, hR9, hS9, hrows9, hrs9, -⟩
  rw [hrows8'.out] at h9a
  obtain ⟨rfl, rfl⟩ : tk9 = [⟨xa, d1, 8, 1, bs8, x8.f⟩, ⟨xb, d2, 8, 1, bs6, x6.f⟩] ∧ rest9 = [] := by
    rcases tk9 with _ | ⟨y, tk9⟩
    · rw [List.nil_append] at h9a; subst h9a; exact absurd (h9c _ rfl) (by simp)
    · rcases tk9 with _ | ⟨z, tk9⟩
      · simp only [List.cons_append, List.nil_append, List.cons.injEq] at h9a; obtain ⟨rfl, rfl⟩ := h9a; exact absurd (h9c _ rfl) (by simp)
      · simp only [List.cons_append, List.cons.injEq] at h9a
        obtain ⟨rfl, rfl, h9⟩ := h9a
        have := List.append_eq_nil_iff.1 h9.symm
        simp [this.1, this.2]
  obtain rfl : n9 = 2 := by rw [hn9]; simp [outsOf]
  have hrg9 := hS9.1.trans hrg8.out
  clear hS9 h9a h9b h9c hn9 hrs9
  have hO9_ := hO9
  clear hO9
  have hO9 := Lib.hid hO9_
  clear hO9_
  have hR9_ := hR9
  clear hR9
  have hR9 := Lib.hid hR9_
  clear hR9_
  have hrg9_ := hrg9
  clear hrg9
  have hrg9 := Lib.hid hrg9_
  clear hrg9_
  have hrows9_ := hrows9
  clear hrows9
  have hrows9 := Lib.hid hrows9_
  clear hrows9_
  go_wp2_with fail
  refine (used_ok w9 hR9 hrg9).mono ?_; rintro e w10 ⟨rfl, rfl⟩
  rw [hrows9.out]
  have hBF : Hid (Below w.heap.size w w9) := Lib.hid (by
    have b2 := hB.out
    have l2 := b2.size
    have b3 := hO3.out.belowN l2 fun k hk h => h hk
    have b4 := hO4.out.belowN (Nat.le_trans l2 b3.size) fun k hk h => h hk
    have b34 := b3.trans b4
    have b5 := b34.trans (hO5.out.belowN (Nat.le_trans l2 b34.size) fun k hk h => h hk)
    have b6 := b5.trans (hO6.out.belowN (Nat.le_trans l2 b5.size) fun k hk h => h hk)
    have b7 := b6.trans (hO7.out.belowN (Nat.le_trans l2 b6.size) fun k hk h => h hk)
    have b8 := b7.trans (hO8.out.belowN (Nat.le_trans l2 b7.size) fun k hk h => h (.inl hk))
    have b9 := b8.trans (hO9.out.belowN (Nat.le_trans l2 b8.size) fun k hk h => h (.inl hk))
    exact b2.trans b9)
  go_wp2_with fail
  go_ret
  exact ⟨rfl, hBF.out⟩
end Go.Proofs.Ytmjeloinibembaa
