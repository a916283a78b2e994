/-
  RingPlays: every size.
-/
import Derived.Test.YtmjeloinibembaaPlaysW
namespace Go.Proofs.Ytmjeloinibembaa
open Go.RowKit
set_option linter.unusedVariables false
set_option linter.unusedSimpArgs false
set_option maxRecDepth 100000 in
set_option maxHeartbeats 1600000 in
theorem plays_bad (w : World) {a0 : Option Addr} {n c0 : Nat} {z : Int} {ss : List Stp} (hs : Hid (StepsAt w a0 n ss)) (hz : Hid (z < 8 ∨ 4096 < z ∨ Int.tmod z 8 ≠ 0)) (hn62 : Hid (n < 2 ^ 63)) :
    Calls Try.prog 6 #[.int .i64 z, .slice a0 n c0] w fun e w' => e = .returned (.bool true) ∧ Below w.heap.size w w' := by
  go_enter Try.func6, Try.ntmps6
  go_wp2_with fail
  refine (f12_ok w).mono ?_; rintro e w1 ⟨rfl, hb1⟩
  have hb1 := Lib.hid hb1
  have hs1 : Hid (StepsAt w1 a0 n ss) := Lib.hid ⟨hs.out.len, hs.out.at'.imp id fun ⟨g, o, h1, h2⟩ => ⟨g, o, h1, fun j s h => by
    obtain ⟨x0, x1, x2⟩ := h2 j s h
    exact ⟨(hb1.out.cell (World.block_lt_of_cell? _ _ x0)).trans x0, (hb1.out.cell (World.block_lt_of_cell? _ _ x1)).trans x1, (hb1.out.cell (World.block_lt_of_cell? _ _ x2)).trans x2⟩⟩, fun j s h => ⟨(hs.out.sl j s h).1, (hs.out.sl j s h).2.arg hb1.out hb1.out.size fun _ h => h⟩⟩
  go_wp2_with fail
  refine (f24_ok w1 hs1 hn62).mono ?_; rintro e w1' ⟨v, rfl, rfl, hfew⟩
  rcases hfew with rfl | ⟨rfl, -, -⟩
  · go_wp2_with fail
    go_ret
    exact ⟨rfl, hb1.out⟩
  go_wp2_with fail
  refine (f14_ok w1).mono ?_; rintro e w2 ⟨rfl, hw2⟩
  have hb2 : Below w.heap.size w w2 := by rw [hw2]; exact hb1.out.alloc hb1.out.size _
  have hb2 := Lib.hid hb2
  clear hw2
  go_wp2_with fail
  refine (f25_ok w2).mono ?_; rintro e w3 ⟨rfl, hw3⟩
  have hb3 : Below w.heap.size w w3 := by rw [hw3]; exact hb2.out.alloc hb2.out.size _
  have hb3 := Lib.hid hb3
  clear hw3
  go_wp2_with fail
  refine (f13_bad w3 hz).mono ?_; rintro e w4 ⟨rfl, rfl⟩
  go_wp2_with fail
  refine (f26_bad w3 hz).mono ?_; rintro e w5 ⟨rfl, rfl⟩
  go_wp2_with fail
  go_ret
  exact ⟨rfl, hb3.out⟩
theorem ringPlays_walk (a0 : Int) (a1 : Option Addr) (n1 c1 : Nat) (w0 : (Lit.int .i64 a0).wf = true) (W : World) {ss : List Stp} (x : StepsAt W a1 n1 ss ∧ n1 < 2 ^ 63 ∧ ∀ (j : Nat) s, ss[j]? = some s → -(2 ^ 63) ≤ s.n ∧ s.n < 2 ^ 63) :
    Calls Try.prog 6 #[.int .i64 a0, .slice a1 n1 c1] W fun e w' => e = .returned (.bool true) ∧ Below W.heap.size W w' := by
  obtain ⟨x1, x2, x3⟩ := x
  by_cases hz : a0 < 8 ∨ 4096 < a0 ∨ Int.tmod a0 8 ≠ 0
  · exact plays_bad W (Lib.hid x1) (Lib.hid hz) (Lib.hid x2)
  · obtain ⟨z, rfl⟩ : ∃ z : Nat, a0 = z := ⟨a0.toNat, by omega⟩
    refine plays W (Lib.hid x1) (Lib.hid ?_) (Lib.hid x2) (Lib.hid x3)
    have h3 : Int.tmod (z : Int) 8 = 0 := by omega
    rw [Int.tmod_eq_emod_of_nonneg (by omega)] at h3
    omega
end Go.Proofs.Ytmjeloinibembaa
