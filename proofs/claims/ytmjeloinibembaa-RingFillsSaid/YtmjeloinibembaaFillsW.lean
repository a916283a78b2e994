/-
  RingFills: the walk of the law.
-/
import Derived.Test.YtmjeloinibembaaKnA
namespace Go.Proofs.Ytmjeloinibembaa
open Go.RowKit
set_option linter.unusedVariables false
set_option linter.unusedSimpArgs false
/-- so many records of one size are submitted. -/
structure Full (B : Nat) (w : World) (rg z n m base : Nat) (R : RingS) : Prop where
  ring : RingAt B (· < B) w R
  rg_ : R.rg = rg
  size : R.size = z
  len : R.rows.length = m
  all : ∀ r ∈ R.rows, r.n = n ∧ r.st = 1
  rs : R.rs.length ≤ base
theorem used_all {n : Nat} : ∀ {l : List Rec}, (∀ r ∈ l, r.n = n ∧ r.st = 1) → usedN l = l.length * takesN n
  | [], _ => by simp [usedN]
  | r :: l, h => by rw [usedN_cons, used_all (fun a ha => h a (List.mem_cons_of_mem _ ha)), (h r (by simp)).1, List.length_cons, Nat.succ_mul, Nat.add_comm]
set_option maxRecDepth 100000 in
set_option maxHeartbeats 4000000 in
theorem fills (s n : Nat) (hs : 1 ≤ s ∧ s ≤ 512) (hn : 1 ≤ n ∧ n ≤ 600) (w : World) :
    Calls Try.prog 3 #[.int .i64 s, .int .i64 n] w fun e w' => e = .returned (.bool true) ∧ Below w.heap.size w w' := by
  have g1 : ¬ ((s : Int) < 1) := by omega
  have g2 : ¬ (512 < (s : Int)) := by omega
  have g3 : ¬ ((n : Int) < 1) := by omega
  have g4 : ¬ (600 < (n : Int)) := by omega
  obtain ⟨z, hz⟩ : ∃ z, Hid (8 * s = z) := ⟨_, Lib.hid rfl⟩
  obtain ⟨t, ht⟩ : ∃ t, Hid (takesN n = t) := ⟨_, Lib.hid rfl⟩
  have e1 : IntKind.i64.wrap (8 * (s : Int)) = (z : Int) := by rw [IntKind.wrap_i64]; have := hz.out; omega
  have e2 : 8 + ((n : Int) + 7) / 8 * 8 = (t : Int) := by have := ht.out; unfold takesN at this; omega
  have ht8 : Hid (8 ≤ t ∧ t ≤ 4096 ∧ z ≤ 4096) := Lib.hid (by have := ht.out; have := hz.out; unfold takesN at *; omega)
  have hs' := Lib.hid hs
  have hn' := Lib.hid hn
  clear hs hn
  go_enter Try.func3, Try.ntmps3
  go_wp2_with fail
  refine (f12_ok w).mono ?_; rintro e w1 ⟨rfl, hb1⟩
  have hb1_ := hb1
  clear hb1
  have hb1 := Lib.hid hb1_
  clear hb1_
  go_wp2_with fail
  refine (f14_ok w1).mono ?_; rintro e w2 ⟨rfl, hw2⟩
  have hw2_ := hw2
  clear hw2
  have hw2 := Lib.hid hw2_
  clear hw2_
  go_wp2_with fail
  refine (new_ok w2 (size := z) (by have := hz.out; have := hs'.out; omega) (by have := hz.out; have := hs'.out; omega) (by have := hz.out; omega) hw2.out rfl).mono ?_; rintro e w3 ⟨R, rg, rfl, hrg, hsz, hmb, hrows, hrs, hR, hB⟩
  clear hmb
  have hF : Hid (Full w1.heap.size w3 rg z n 0 0 R) := Lib.hid ⟨hR, hrg, hsz, by rw [hrows]; rfl, by rw [hrows]; simp, by rw [hrs]; exact Nat.le_refl _⟩
  clear hR hrg hsz hrows hrs
  have hB_ := hB
  clear hB
  have hB := Lib.hid hB_
  clear hB_
  have hz4 : Hid (z / t ≤ 512) := Lib.hid (Nat.le_trans (Nat.div_le_div_left ht8.out.1 (by decide)) (by have := ht8.out; omega))
  have hBB : Hid (Below w.heap.size w w3) := Lib.hid (hb1.out.trans (hB.out.mono hb1.out.size))
  have hb1s : Hid (w.heap.size ≤ w1.heap.size) := Lib.hid hb1.out.size
  go_wp2_with fail
  go_loopg [8, 9] 2 (fun g i v wr => ∃ (k : Nat) (R : RingS), Hid (g = 2 - k) ∧ k ≤ 2 ∧ i = .int .i64 k ∧ Hid (Full w1.heap.size wr rg z n 0 (k * 600) R) ∧ Hid (Below w.heap.size w wr))
  case atStart => exact ⟨0, R, Lib.hid rfl, by decide, rfl, hF, hBB⟩
  case round =>
    obtain ⟨k, R2, hg, hk, rfl, hF2, hB2⟩ := hrel
    clear hF hBB e2
    by_cases hk2 : k < 2
    · have hk2' : (k : Int) < 2 := by omega
      go_wp2_with fail
      go_loopg [9] (z / t) (fun g v wr => ∃ (m : Nat) (R : RingS), Hid (g = z / t - m) ∧ Hid (m ≤ z / t) ∧ v = .int .i64 m ∧ Hid (Full w1.heap.size wr rg z n m (k * 600 + m) R) ∧ Hid (Below w.heap.size w wr))
      case atStart => exact ⟨0, R2, Lib.hid rfl, Lib.hid (Nat.zero_le _), rfl, hF2, hB2⟩
      case round =>
        obtain ⟨m, R3, hg3, hm3, rfl, hF3, hB3⟩ := hrel
        obtain ⟨w4, hmk, hbt, hth, hk5, hb4, hlt4⟩ := make_bytes wr (n := n) (v := n) (by have := hn'.out; omega) rfl
        have H4 := Lib.hid (hF3.out.ring.below hb4)
        have hrg3 := Lib.hid hF3.out.rg_
        have hu3 : Hid (usedN R3.rows = m * t) := Lib.hid (by rw [used_all hF3.out.all, hF3.out.len, ht.out])
        have hB4 := Lib.hid (hB3.out.trans (hb4.mono hB3.out.size))
        have hbt_ := hbt
        clear hbt
        have hbt := Lib.hid hbt_
        clear hbt_
        have hk5_ := hk5
        clear hk5
        have hk5 := Lib.hid hk5_
        clear hk5_
        clear hb4 hlt4 hth
        have hn16 : Hid (1 ≤ n ∧ n ≤ 4096) := Lib.hid (by have := hn'.out; omega)
        by_cases hlt : m < z / t
        · have hmt : Hid ((m + 1) * t ≤ z) := Lib.hid ((Nat.le_div_iff_mul_le (by have := ht8.out; omega)).1 hlt)
          have hlt' := Lib.hid hlt
          clear hlt
          obtain ⟨u, hu⟩ : ∃ u, Hid ((m + 1) * t = u) := ⟨_, Lib.hid rfl⟩
          have hmz := hm3.out
          have hzz := hz4.out
          have hmm : ¬ (600 < (m : Int) + 1) := by omega
          clear hmz hzz
          have e3 : IntKind.i64.wrap (((m : Int) + 1) * (t : Int)) = (u : Int) := by
            have h1 := hu.out
            have h2 := hmt.out
            have h3 := ht8.out
            have h4 : ((m : Int) + 1) * (t : Int) = (u : Int) := by rw [← h1]; simp
            rw [h4, IntKind.wrap_i64]; omega
          go_wp2_with fail
          refine (output_ok w4 H4 hrg3 hbt (Lib.hid fun _ _ => by decide) hk5 hn16 (Lib.hid (by rw [hu3.out, ht.out, hF3.out.size]; have := hmt.out; rw [Nat.succ_mul] at this; exact this)) (Lib.hid (by have := hF3.out.rs; have := hm3.out; have := hz4.out; omega))).mono ?_
          rintro e w5 ⟨rfl, hO5, R5, xb, bs, rb, bb, f, hR5, hS5, hrows5, hrs5, hf5⟩
          have hF5 : Hid (Full w1.heap.size w5 rg z n (m + 1) (k * 600 + (m + 1)) R5) := Lib.hid ⟨hR5, hS5.1.trans hrg3.out, hS5.2.1.trans hF3.out.size, by rw [hrows5, List.length_append, hF3.out.len]; rfl, fun r hr => by
            rw [hrows5] at hr
            rcases List.mem_append.1 hr with hr | hr
            · exact hF3.out.all r hr
            · obtain rfl := List.mem_singleton.1 hr; exact ⟨rfl, rfl⟩, by rw [hrs5, List.length_append]; have := hF3.out.rs; simp; omega⟩
          have hB5 : Hid (Below w.heap.size w w5) := Lib.hid (hB4.out.trans (hO5.belowN hB4.out.size fun k hk h => h (Nat.lt_of_lt_of_le hk hb1s.out)))
          clear hO5 hR5 hS5 hrows5 hrs5 hf5 hmk
          go_wp2_with fail
          refine (used_ok w5 (Lib.hid hF5.out.ring) (Lib.hid hF5.out.rg_)).mono ?_; rintro e w6 ⟨rfl, rfl⟩
          rw [used_all hF5.out.all, hF5.out.len, ht.out, hu.out]
          go_wp2_with fail
          go_roundg (z / t - (m + 1))
          case measure => rw [hg3.out]; have := hlt'.out; omega
          case rel => exact ⟨m + 1, R5, Lib.hid rfl, hlt', by go_num, hF5, hB5⟩
        · have hmm : Hid (m = z / t) := Lib.hid (by have := hm3.out; omega)
          clear hlt
          have e4 : wrap64 ((z : Int) / (t : Int)) = (m : Int) := by rw [show (z : Int) / (t : Int) = (m : Int) by rw [hmm.out]; simp]; have := hm3.out; have := hz4.out; unfold wrap64; omega
          have ht0 : ¬ ((t : Int) = 0) := by have := ht8.out; omega
          go_wp2_with fail
          refine (output_full w4 H4 hrg3 hn16 (Lib.hid (by
            rw [hu3.out, ht.out, hF3.out.size, hmm.out]
            have h1 := Nat.lt_mul_div_succ z (show 0 < t by have := ht8.out; omega)
            rw [Nat.mul_succ, Nat.mul_comm t] at h1; exact h1))).mono ?_
          rintro e w5 ⟨rfl, hO5, hR5⟩
          have hB5 : Hid (Below w.heap.size w w5) := Lib.hid (hB4.out.trans (hO5.belowN hB4.out.size fun k hk h => h (Nat.lt_of_lt_of_le hk hb1s.out)))
          have hR5' := Lib.hid hR5
          clear hO5 hR5 hmk
          go_wp2_with fail
          refine (read_ok w5 hR5' hrg3).mono ?_; rintro e w7 ⟨a7, n7, c7, rfl, hO7, R7, tk7, rest7, hn7, h7a, h7b, h7c, -, hR7, hS7, hrows7, hrs7, -⟩
          obtain rfl : rest7 = [] := by
            rcases rest7 with _ | ⟨y, l⟩
            · rfl
            · have h1 := h7c y rfl
              have h2 := (hF3.out.all y (by rw [h7a]; simp)).2
              omega
          rw [List.append_nil] at h7a
          subst h7a
          obtain rfl : n7 = m := by
            rw [hn7, ← hF3.out.len]
            unfold outsOf
            rw [List.length_map, List.filter_eq_self.2 fun a ha => by rw [(hF3.out.all a ha).2]; rfl]
          have hF7 : Hid (Full w1.heap.size w7 rg z n 0 ((k + 1) * 600) R7) := Lib.hid ⟨hR7.bar (fun _ h => h) (fun _ h => .inl h), hS7.1.trans hrg3.out, hS7.2.1.trans hF3.out.size, by rw [hrows7]; rfl, by rw [hrows7]; simp, by rw [hrs7]; have := hF3.out.rs; have := hm3.out; have := hz4.out; omega⟩
          have hB7 : Hid (Below w.heap.size w w7) := Lib.hid (hB5.out.trans (hO7.belowN hB5.out.size fun k hk h => h (Nat.lt_of_lt_of_le hk hb1s.out)))
          have hrows7' := Lib.hid hrows7
          clear hO7 hn7 h7b h7c hR7 hS7 hrows7 hrs7
          go_wp2_with fail
          refine (used_ok w7 (Lib.hid hF7.out.ring) (Lib.hid hF7.out.rg_)).mono ?_; rintro e w8 ⟨rfl, rfl⟩
          rw [hrows7'.out]
          go_wp2_with fail
          go_roundg (2 - (k + 1))
          case measure => rw [hg.out]; omega
          case rel => exact ⟨k + 1, R7, Lib.hid rfl, by omega, by go_num, hF7, hB7⟩
    · have : k = 2 := by omega
      subst this
      go_wp2_with fail
      go_ret
      exact ⟨rfl, hB2.out⟩
set_option maxRecDepth 100000 in
set_option maxHeartbeats 2000000 in
theorem fills_out (a0 a1 : Int) (h : Hid (a0 < 1 ∨ 512 < a0 ∨ a1 < 1 ∨ 600 < a1)) (w : World) :
    Calls Try.prog 3 #[.int .i64 a0, .int .i64 a1] w fun e w' => e = .returned (.bool true) ∧ Below w.heap.size w w' := by
  by_cases h1 : a0 < 1
  · go_enter Try.func3, Try.ntmps3
    go_wp2_with fail
    refine (f12_ok w).mono ?_; rintro e w1 ⟨rfl, hb1⟩
    have hb1_ := hb1
    clear hb1
    have hb1 := Lib.hid hb1_
    clear hb1_
    go_wp2_with fail
    go_ret
    exact ⟨rfl, hb1.out⟩
  · by_cases h2 : 512 < a0
    · go_enter Try.func3, Try.ntmps3
      go_wp2_with fail
      refine (f12_ok w).mono ?_; rintro e w1 ⟨rfl, hb1⟩
      have hb1_ := hb1
      clear hb1
      have hb1 := Lib.hid hb1_
      clear hb1_
      go_wp2_with fail
      go_ret
      exact ⟨rfl, hb1.out⟩
    · by_cases h3 : a1 < 1
      · go_enter Try.func3, Try.ntmps3
        go_wp2_with fail
        refine (f12_ok w).mono ?_; rintro e w1 ⟨rfl, hb1⟩
        have hb1_ := hb1
        clear hb1
        have hb1 := Lib.hid hb1_
        clear hb1_
        go_wp2_with fail
        go_ret
        exact ⟨rfl, hb1.out⟩
      · have h4 : 600 < a1 := by have := h.out; omega
        go_enter Try.func3, Try.ntmps3
        go_wp2_with fail
        refine (f12_ok w).mono ?_; rintro e w1 ⟨rfl, hb1⟩
        have hb1_ := hb1
        clear hb1
        have hb1 := Lib.hid hb1_
        clear hb1_
        go_wp2_with fail
        go_ret
        exact ⟨rfl, hb1.out⟩
theorem ringFills_walk (a0 a1 : Int) (w0 : (Lit.int .i64 a0).wf = true) (w1 : (Lit.int .i64 a1).wf = true) (w : World) :
    Calls Try.prog 3 #[.int .i64 a0, .int .i64 a1] w fun e w' => e = .returned (.bool true) ∧ Below w.heap.size w w' := by
  by_cases h : (1 ≤ a0 ∧ a0 ≤ 512) ∧ (1 ≤ a1 ∧ a1 ≤ 600)
  · obtain ⟨s, rfl⟩ : ∃ s : Nat, a0 = s := ⟨a0.toNat, by omega⟩
    obtain ⟨n, rfl⟩ : ∃ n : Nat, a1 = n := ⟨a1.toNat, by omega⟩
    exact fills s n (by omega) (by omega) w
  · exact fills_out a0 a1 (Lib.hid (by omega)) w
end Go.Proofs.Ytmjeloinibembaa
