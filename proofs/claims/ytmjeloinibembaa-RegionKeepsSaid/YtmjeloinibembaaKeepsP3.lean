/-
  RegionKeeps: the walk of the law (pointers, part 3).
-/
import Derived.Test.YtmjeloinibembaaKeepsQ
namespace Go.Proofs.Ytmjeloinibembaa
open Go.RowKit
set_option linter.unusedVariables false
set_option linter.unusedSimpArgs false
set_option maxRecDepth 100000 in
set_option maxHeartbeats 8000000 in
theorem keeps_p_1_1 (a0 a1 : Int) (x y : Nat) (hx : x < 2 ^ 64) (hy : y < 2 ^ 64) (w : World) :
    Calls Try.prog 7 #[.int .i64 a0, .int .i64 a1, .int .i64 1, .int .i64 1, .int .u64 x, .int .u64 y, .bool true] w fun e w' => e = .returned (.bool true) ∧ Below w.heap.size w w' := by
  have hx' := Lib.hid hx
  have hy' := Lib.hid hy
  clear hx hy
  go_enter Try.func7, Try.ntmps7
  go_wp2_with fail
  refine (f39_ok w).mono ?_; rintro e w1 ⟨rfl, hb1⟩
  have hb1' := Lib.hid hb1
  go_wp2_with fail
  all_goals try (go_ret; exact ⟨rfl, hb1⟩)
  clear hb1
  obtain ⟨o1, ho1⟩ : ∃ o : Nat, Hid (a0 = (o : Int) - 512) := ⟨(a0 + 512).toNat, Lib.hid (by omega)⟩
  obtain ⟨o2, ho2⟩ : ∃ o : Nat, Hid (a1 = (o : Int) - 512) := ⟨(a1 + 512).toNat, Lib.hid (by omega)⟩
  have hr1 : Hid (o1 ≤ 504 ∧ o2 ≤ 504) := Lib.hid (by have := ho1.out; have := ho2.out; omega)
  refine (f14_ok w1).mono ?_; rintro e w2 ⟨rfl, hw2⟩
  have hM2 : Hid (MemRow w1.heap.size w2 w1.heap.size (.slice none 0 0) []) := Lib.hid (hw2 ▸ MemRow.new w1)
  have hb2 : Hid (Below w1.heap.size w1 w2) := Lib.hid (hw2 ▸ Below.one _)
  clear hw2
  go_wp2_with fail
  refine (f40_ok w1.heap.size w2 hM2 (Lib.hid (by decide)) (Lib.hid hb2.out.size)).mono ?_; rintro e w3 ⟨fb, v3, rfl, M3, F3, hfb, O3⟩
  have hB3 : Hid (Below w1.heap.size w1 w3) := Lib.hid (hb2.out.trans (O3.belowN hb2.out.size (fun k hk he => by
    rcases he with rfl | he
    · omega
    · simp [Value.ownBlock] at he)))
  have hM3 := Lib.hid M3
  have hF3 := Lib.hid F3
  have hfb' : Hid (w1.heap.size ≤ fb) := Lib.hid (by have := hb2.out.size; omega)
  clear M3 F3 O3 hfb
  go_wp2_with fail
  refine (f40_ok w1.heap.size w3 hM3 (Lib.hid (by simp)) (Lib.hid hB3.out.size)).mono ?_; rintro e w4 ⟨gb, v4, rfl, M4, G4, hgb, O4⟩
  have hB4 : Hid (Below w1.heap.size w1 w4) := Lib.hid (hB3.out.trans (O4.belowN hB3.out.size (fun k hk he => by
    rcases he with rfl | he
    · omega
    · have := (own_kind hM3.out.own he).2; omega)))
  have hF4 := Lib.hid (hF3.out.only O4 (mem_no hM3.out hF3.out.kind (by decide) (by decide)))
  have hfg : Hid (fb ≠ gb) := Lib.hid (by have := hF3.out.kind.lt; omega)
  have hgb' : Hid (w1.heap.size ≤ gb) := Lib.hid (by have := hB3.out.size; omega)
  have hM4 := Lib.hid M4
  have hG4 := Lib.hid G4
  clear M4 G4 O4 hgb
  go_wp2_with fail
  obtain ⟨W, hW, hP5, hQ5, hV5, hbW⟩ := boxes3 (w := w4) (v0 := .int .i64 2) (v1 := .int .u64 0) (v2 := .int .i64 1) (v3 := .int .i64 a0) (u0 := .int .i64 2) (u1 := .int .u64 0) (u2 := .int .i64 1) (u3 := .int .i64 a1) (t0 := .int .i64 4) (t1 := .int .u64 0) (t2 := .int .i64 3) (t3 := .int .i64 0)
  rw [← hW.out]
  obtain ⟨b, hb⟩ : ∃ b, Hid (w4.heap.size = b) := ⟨_, Lib.hid rfl⟩
  rw [hb.out] at hP5 hQ5 hV5 ⊢
  have hbl : Hid (fb < b ∧ gb < b) := Lib.hid (by have := hF4.out.kind.lt; have := hG4.out.kind.lt; have := hb.out; omega)
  have hM5 := Lib.hid (hM4.out.below hbW)
  have hF5 := Lib.hid (hF4.out.below.out W hbW)
  have hG5 := Lib.hid (hG4.out.below.out W hbW)
  have hB5 : Hid (Below w1.heap.size w1 W) := Lib.hid (below_then hB4.out hbW)
  clear hbW hW
  refine (st_spill hM5 (i := 1) (j := 0) (Lib.hid (by decide)) hF5 (Lib.hid rfl) (off := a0) (o := o1) ho1 (n := 1) (Lib.hid (by decide)) (Lib.hid (by have := hr1.out; omega)) (.int .u64 0) 4 0 3 0 (by decide) (by decide) (Lib.hid (tagT_no fun _ => rfl)) (Lib.hid (.inl (by decide)))).mono ?_; rintro e w6 ⟨rfl, O6, F6, M6⟩
  have hB6 : Hid (Below w1.heap.size w1 w6) := Lib.hid (hB5.out.trans (O6.belowN hB5.out.size (fun k hk he => by have := hfb'.out; omega)))
  clear F6 M6 O6
  go_wp2_with fail
  go_ret
  exact ⟨rfl, below_then hb1'.out hB6.out⟩
set_option maxRecDepth 100000 in
set_option maxHeartbeats 8000000 in
theorem keeps_p_1_2 (a0 a1 : Int) (x y : Nat) (hx : x < 2 ^ 64) (hy : y < 2 ^ 64) (w : World) :
    Calls Try.prog 7 #[.int .i64 a0, .int .i64 a1, .int .i64 1, .int .i64 2, .int .u64 x, .int .u64 y, .bool true] w fun e w' => e = .returned (.bool true) ∧ Below w.heap.size w w' := by
  have hx' := Lib.hid hx
  have hy' := Lib.hid hy
  clear hx hy
  go_enter Try.func7, Try.ntmps7
  go_wp2_with fail
  refine (f39_ok w).mono ?_; rintro e w1 ⟨rfl, hb1⟩
  have hb1' := Lib.hid hb1
  go_wp2_with fail
  all_goals try (go_ret; exact ⟨rfl, hb1⟩)
  clear hb1
  obtain ⟨o1, ho1⟩ : ∃ o : Nat, Hid (a0 = (o : Int) - 512) := ⟨(a0 + 512).toNat, Lib.hid (by omega)⟩
  obtain ⟨o2, ho2⟩ : ∃ o : Nat, Hid (a1 = (o : Int) - 512) := ⟨(a1 + 512).toNat, Lib.hid (by omega)⟩
  have hr1 : Hid (o1 ≤ 504 ∧ o2 ≤ 504) := Lib.hid (by have := ho1.out; have := ho2.out; omega)
  refine (f14_ok w1).mono ?_; rintro e w2 ⟨rfl, hw2⟩
  have hM2 : Hid (MemRow w1.heap.size w2 w1.heap.size (.slice none 0 0) []) := Lib.hid (hw2 ▸ MemRow.new w1)
  have hb2 : Hid (Below w1.heap.size w1 w2) := Lib.hid (hw2 ▸ Below.one _)
  clear hw2
  go_wp2_with fail
  refine (f40_ok w1.heap.size w2 hM2 (Lib.hid (by decide)) (Lib.hid hb2.out.size)).mono ?_; rintro e w3 ⟨fb, v3, rfl, M3, F3, hfb, O3⟩
  have hB3 : Hid (Below w1.heap.size w1 w3) := Lib.hid (hb2.out.trans (O3.belowN hb2.out.size (fun k hk he => by
    rcases he with rfl | he
    · omega
    · simp [Value.ownBlock] at he)))
  have hM3 := Lib.hid M3
  have hF3 := Lib.hid F3
  have hfb' : Hid (w1.heap.size ≤ fb) := Lib.hid (by have := hb2.out.size; omega)
  clear M3 F3 O3 hfb
  go_wp2_with fail
  refine (f40_ok w1.heap.size w3 hM3 (Lib.hid (by simp)) (Lib.hid hB3.out.size)).mono ?_; rintro e w4 ⟨gb, v4, rfl, M4, G4, hgb, O4⟩
  have hB4 : Hid (Below w1.heap.size w1 w4) := Lib.hid (hB3.out.trans (O4.belowN hB3.out.size (fun k hk he => by
    rcases he with rfl | he
    · omega
    · have := (own_kind hM3.out.own he).2; omega)))
  have hF4 := Lib.hid (hF3.out.only O4 (mem_no hM3.out hF3.out.kind (by decide) (by decide)))
  have hfg : Hid (fb ≠ gb) := Lib.hid (by have := hF3.out.kind.lt; omega)
  have hgb' : Hid (w1.heap.size ≤ gb) := Lib.hid (by have := hB3.out.size; omega)
  have hM4 := Lib.hid M4
  have hG4 := Lib.hid G4
  clear M4 G4 O4 hgb
  go_wp2_with fail
  obtain ⟨W, hW, hP5, hQ5, hV5, hbW⟩ := boxes3 (w := w4) (v0 := .int .i64 2) (v1 := .int .u64 0) (v2 := .int .i64 1) (v3 := .int .i64 a0) (u0 := .int .i64 2) (u1 := .int .u64 0) (u2 := .int .i64 1) (u3 := .int .i64 a1) (t0 := .int .i64 4) (t1 := .int .u64 0) (t2 := .int .i64 3) (t3 := .int .i64 0)
  rw [← hW.out]
  obtain ⟨b, hb⟩ : ∃ b, Hid (w4.heap.size = b) := ⟨_, Lib.hid rfl⟩
  rw [hb.out] at hP5 hQ5 hV5 ⊢
  have hbl : Hid (fb < b ∧ gb < b) := Lib.hid (by have := hF4.out.kind.lt; have := hG4.out.kind.lt; have := hb.out; omega)
  have hM5 := Lib.hid (hM4.out.below hbW)
  have hF5 := Lib.hid (hF4.out.below.out W hbW)
  have hG5 := Lib.hid (hG4.out.below.out W hbW)
  have hB5 : Hid (Below w1.heap.size w1 W) := Lib.hid (below_then hB4.out hbW)
  clear hbW hW
  refine (st_spill hM5 (i := 1) (j := 0) (Lib.hid (by decide)) hF5 (Lib.hid rfl) (off := a0) (o := o1) ho1 (n := 1) (Lib.hid (by decide)) (Lib.hid (by have := hr1.out; omega)) (.int .u64 0) 4 0 3 0 (by decide) (by decide) (Lib.hid (tagT_no fun _ => rfl)) (Lib.hid (.inl (by decide)))).mono ?_; rintro e w6 ⟨rfl, O6, F6, M6⟩
  have hB6 : Hid (Below w1.heap.size w1 w6) := Lib.hid (hB5.out.trans (O6.belowN hB5.out.size (fun k hk he => by have := hfb'.out; omega)))
  clear F6 M6 O6
  go_wp2_with fail
  go_ret
  exact ⟨rfl, below_then hb1'.out hB6.out⟩
set_option maxRecDepth 100000 in
set_option maxHeartbeats 8000000 in
theorem keeps_p_1_4 (a0 a1 : Int) (x y : Nat) (hx : x < 2 ^ 64) (hy : y < 2 ^ 64) (w : World) :
    Calls Try.prog 7 #[.int .i64 a0, .int .i64 a1, .int .i64 1, .int .i64 4, .int .u64 x, .int .u64 y, .bool true] w fun e w' => e = .returned (.bool true) ∧ Below w.heap.size w w' := by
  have hx' := Lib.hid hx
  have hy' := Lib.hid hy
  clear hx hy
  go_enter Try.func7, Try.ntmps7
  go_wp2_with fail
  refine (f39_ok w).mono ?_; rintro e w1 ⟨rfl, hb1⟩
  have hb1' := Lib.hid hb1
  go_wp2_with fail
  all_goals try (go_ret; exact ⟨rfl, hb1⟩)
  clear hb1
  obtain ⟨o1, ho1⟩ : ∃ o : Nat, Hid (a0 = (o : Int) - 512) := ⟨(a0 + 512).toNat, Lib.hid (by omega)⟩
  obtain ⟨o2, ho2⟩ : ∃ o : Nat, Hid (a1 = (o : Int) - 512) := ⟨(a1 + 512).toNat, Lib.hid (by omega)⟩
  have hr1 : Hid (o1 ≤ 504 ∧ o2 ≤ 504) := Lib.hid (by have := ho1.out; have := ho2.out; omega)
  refine (f14_ok w1).mono ?_; rintro e w2 ⟨rfl, hw2⟩
  have hM2 : Hid (MemRow w1.heap.size w2 w1.heap.size (.slice none 0 0) []) := Lib.hid (hw2 ▸ MemRow.new w1)
  have hb2 : Hid (Below w1.heap.size w1 w2) := Lib.hid (hw2 ▸ Below.one _)
  clear hw2
  go_wp2_with fail
  refine (f40_ok w1.heap.size w2 hM2 (Lib.hid (by decide)) (Lib.hid hb2.out.size)).mono ?_; rintro e w3 ⟨fb, v3, rfl, M3, F3, hfb, O3⟩
  have hB3 : Hid (Below w1.heap.size w1 w3) := Lib.hid (hb2.out.trans (O3.belowN hb2.out.size (fun k hk he => by
    rcases he with rfl | he
    · omega
    · simp [Value.ownBlock] at he)))
  have hM3 := Lib.hid M3
  have hF3 := Lib.hid F3
  have hfb' : Hid (w1.heap.size ≤ fb) := Lib.hid (by have := hb2.out.size; omega)
  clear M3 F3 O3 hfb
  go_wp2_with fail
  refine (f40_ok w1.heap.size w3 hM3 (Lib.hid (by simp)) (Lib.hid hB3.out.size)).mono ?_; rintro e w4 ⟨gb, v4, rfl, M4, G4, hgb, O4⟩
  have hB4 : Hid (Below w1.heap.size w1 w4) := Lib.hid (hB3.out.trans (O4.belowN hB3.out.size (fun k hk he => by
    rcases he with rfl | he
    · omega
    · have := (own_kind hM3.out.own he).2; omega)))
  have hF4 := Lib.hid (hF3.out.only O4 (mem_no hM3.out hF3.out.kind (by decide) (by decide)))
  have hfg : Hid (fb ≠ gb) := Lib.hid (by have := hF3.out.kind.lt; omega)
  have hgb' : Hid (w1.heap.size ≤ gb) := Lib.hid (by have := hB3.out.size; omega)
  have hM4 := Lib.hid M4
  have hG4 := Lib.hid G4
  clear M4 G4 O4 hgb
  go_wp2_with fail
  obtain ⟨W, hW, hP5, hQ5, hV5, hbW⟩ := boxes3 (w := w4) (v0 := .int .i64 2) (v1 := .int .u64 0) (v2 := .int .i64 1) (v3 := .int .i64 a0) (u0 := .int .i64 2) (u1 := .int .u64 0) (u2 := .int .i64 1) (u3 := .int .i64 a1) (t0 := .int .i64 4) (t1 := .int .u64 0) (t2 := .int .i64 3) (t3 := .int .i64 0)
  rw [← hW.out]
  obtain ⟨b, hb⟩ : ∃ b, Hid (w4.heap.size = b) := ⟨_, Lib.hid rfl⟩
  rw [hb.out] at hP5 hQ5 hV5 ⊢
  have hbl : Hid (fb < b ∧ gb < b) := Lib.hid (by have := hF4.out.kind.lt; have := hG4.out.kind.lt; have := hb.out; omega)
  have hM5 := Lib.hid (hM4.out.below hbW)
  have hF5 := Lib.hid (hF4.out.below.out W hbW)
  have hG5 := Lib.hid (hG4.out.below.out W hbW)
  have hB5 : Hid (Below w1.heap.size w1 W) := Lib.hid (below_then hB4.out hbW)
  clear hbW hW
  refine (st_spill hM5 (i := 1) (j := 0) (Lib.hid (by decide)) hF5 (Lib.hid rfl) (off := a0) (o := o1) ho1 (n := 1) (Lib.hid (by decide)) (Lib.hid (by have := hr1.out; omega)) (.int .u64 0) 4 0 3 0 (by decide) (by decide) (Lib.hid (tagT_no fun _ => rfl)) (Lib.hid (.inl (by decide)))).mono ?_; rintro e w6 ⟨rfl, O6, F6, M6⟩
  have hB6 : Hid (Below w1.heap.size w1 w6) := Lib.hid (hB5.out.trans (O6.belowN hB5.out.size (fun k hk he => by have := hfb'.out; omega)))
  clear F6 M6 O6
  go_wp2_with fail
  go_ret
  exact ⟨rfl, below_then hb1'.out hB6.out⟩
set_option maxRecDepth 100000 in
set_option maxHeartbeats 8000000 in
theorem keeps_p_1_8 (a0 a1 : Int) (x y : Nat) (hx : x < 2 ^ 64) (hy : y < 2 ^ 64) (w : World) :
    Calls Try.prog 7 #[.int .i64 a0, .int .i64 a1, .int .i64 1, .int .i64 8, .int .u64 x, .int .u64 y, .bool true] w fun e w' => e = .returned (.bool true) ∧ Below w.heap.size w w' := by
  have hx' := Lib.hid hx
  have hy' := Lib.hid hy
  clear hx hy
  go_enter Try.func7, Try.ntmps7
  go_wp2_with fail
  refine (f39_ok w).mono ?_; rintro e w1 ⟨rfl, hb1⟩
  have hb1' := Lib.hid hb1
  go_wp2_with fail
  all_goals try (go_ret; exact ⟨rfl, hb1⟩)
  clear hb1
  obtain ⟨o1, ho1⟩ : ∃ o : Nat, Hid (a0 = (o : Int) - 512) := ⟨(a0 + 512).toNat, Lib.hid (by omega)⟩
  obtain ⟨o2, ho2⟩ : ∃ o : Nat, Hid (a1 = (o : Int) - 512) := ⟨(a1 + 512).toNat, Lib.hid (by omega)⟩
  have hr1 : Hid (o1 ≤ 504 ∧ o2 ≤ 504) := Lib.hid (by have := ho1.out; have := ho2.out; omega)
  refine (f14_ok w1).mono ?_; rintro e w2 ⟨rfl, hw2⟩
  have hM2 : Hid (MemRow w1.heap.size w2 w1.heap.size (.slice none 0 0) []) := Lib.hid (hw2 ▸ MemRow.new w1)
  have hb2 : Hid (Below w1.heap.size w1 w2) := Lib.hid (hw2 ▸ Below.one _)
  clear hw2
  go_wp2_with fail
  refine (f40_ok w1.heap.size w2 hM2 (Lib.hid (by decide)) (Lib.hid hb2.out.size)).mono ?_; rintro e w3 ⟨fb, v3, rfl, M3, F3, hfb, O3⟩
  have hB3 : Hid (Below w1.heap.size w1 w3) := Lib.hid (hb2.out.trans (O3.belowN hb2.out.size (fun k hk he => by
    rcases he with rfl | he
    · omega
    · simp [Value.ownBlock] at he)))
  have hM3 := Lib.hid M3
  have hF3 := Lib.hid F3
  have hfb' : Hid (w1.heap.size ≤ fb) := Lib.hid (by have := hb2.out.size; omega)
  clear M3 F3 O3 hfb
  go_wp2_with fail
  refine (f40_ok w1.heap.size w3 hM3 (Lib.hid (by simp)) (Lib.hid hB3.out.size)).mono ?_; rintro e w4 ⟨gb, v4, rfl, M4, G4, hgb, O4⟩
  have hB4 : Hid (Below w1.heap.size w1 w4) := Lib.hid (hB3.out.trans (O4.belowN hB3.out.size (fun k hk he => by
    rcases he with rfl | he
    · omega
    · have := (own_kind hM3.out.own he).2; omega)))
  have hF4 := Lib.hid (hF3.out.only O4 (mem_no hM3.out hF3.out.kind (by decide) (by decide)))
  have hfg : Hid (fb ≠ gb) := Lib.hid (by have := hF3.out.kind.lt; omega)
  have hgb' : Hid (w1.heap.size ≤ gb) := Lib.hid (by have := hB3.out.size; omega)
  have hM4 := Lib.hid M4
  have hG4 := Lib.hid G4
  clear M4 G4 O4 hgb
  go_wp2_with fail
  obtain ⟨W, hW, hP5, hQ5, hV5, hbW⟩ := boxes3 (w := w4) (v0 := .int .i64 2) (v1 := .int .u64 0) (v2 := .int .i64 1) (v3 := .int .i64 a0) (u0 := .int .i64 2) (u1 := .int .u64 0) (u2 := .int .i64 1) (u3 := .int .i64 a1) (t0 := .int .i64 4) (t1 := .int .u64 0) (t2 := .int .i64 3) (t3 := .int .i64 0)
  rw [← hW.out]
  obtain ⟨b, hb⟩ : ∃ b, Hid (w4.heap.size = b) := ⟨_, Lib.hid rfl⟩
  rw [hb.out] at hP5 hQ5 hV5 ⊢
  have hbl : Hid (fb < b ∧ gb < b) := Lib.hid (by have := hF4.out.kind.lt; have := hG4.out.kind.lt; have := hb.out; omega)
  have hM5 := Lib.hid (hM4.out.below hbW)
  have hF5 := Lib.hid (hF4.out.below.out W hbW)
  have hG5 := Lib.hid (hG4.out.below.out W hbW)
  have hB5 : Hid (Below w1.heap.size w1 W) := Lib.hid (below_then hB4.out hbW)
  clear hbW hW
  refine (st_spill hM5 (i := 1) (j := 0) (Lib.hid (by decide)) hF5 (Lib.hid rfl) (off := a0) (o := o1) ho1 (n := 1) (Lib.hid (by decide)) (Lib.hid (by have := hr1.out; omega)) (.int .u64 0) 4 0 3 0 (by decide) (by decide) (Lib.hid (tagT_no fun _ => rfl)) (Lib.hid (.inl (by decide)))).mono ?_; rintro e w6 ⟨rfl, O6, F6, M6⟩
  have hB6 : Hid (Below w1.heap.size w1 w6) := Lib.hid (hB5.out.trans (O6.belowN hB5.out.size (fun k hk he => by have := hfb'.out; omega)))
  clear F6 M6 O6
  go_wp2_with fail
  go_ret
  exact ⟨rfl, below_then hb1'.out hB6.out⟩
end Go.Proofs.Ytmjeloinibembaa
