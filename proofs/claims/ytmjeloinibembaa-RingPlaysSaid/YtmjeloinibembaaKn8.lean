/-
  THE WALK of the region laws' own 'known': it is true.
-/
import Derived.Test.YtmjeloinibembaaCl
namespace Go.Proofs.Ytmjeloinibembaa
open Go.RowKit
set_option linter.unusedVariables false
set_option linter.unusedSimpArgs false
/-- a value of a register in a block of its own. -/
structure Box (w : World) (b : Nat) (v0 v1 v2 v3 : Value) : Prop where
  c0 : w.cell? ⟨b, 0, none⟩ = some v0
  c1 : w.cell? ⟨b, 1, none⟩ = some v1
  c2 : w.cell? ⟨b, 2, none⟩ = some v2
  c3 : w.cell? ⟨b, 3, none⟩ = some v3
  thaw : Thaw w b
theorem Box.lt {w : World} {b : Nat} {v0 v1 v2 v3 : Value} (h : Box w b v0 v1 v2 v3) : b < w.heap.size := World.block_lt_of_cell? _ _ h.c0
theorem Box.new {w : World} {v0 v1 v2 v3 : Value} : Box (w.alloc (.cells #[v0, v1, v2, v3] 63)) w.heap.size v0 v1 v2 v3 :=
  ⟨by rw [World.cell?_alloc_at _ _ _ _ rfl]; rfl, by rw [World.cell?_alloc_at _ _ _ _ rfl]; rfl, by rw [World.cell?_alloc_at _ _ _ _ rfl]; rfl, by rw [World.cell?_alloc_at _ _ _ _ rfl]; rfl, Thaw.new _ _ _⟩
theorem Box.only {S : Nat → Prop} {w w' : World} {b : Nat} {v0 v1 v2 v3 : Value} (h : Box w b v0 v1 v2 v3) (ho : Only S w w') (hn : ¬ S b) : Box w' b v0 v1 v2 v3 :=
  ⟨by rw [ho.cell (p := ⟨b, 0, none⟩) h.lt hn]; exact h.c0, by rw [ho.cell (p := ⟨b, 1, none⟩) h.lt hn]; exact h.c1, by rw [ho.cell (p := ⟨b, 2, none⟩) h.lt hn]; exact h.c2, by rw [ho.cell (p := ⟨b, 3, none⟩) h.lt hn]; exact h.c3, h.thaw.only ho h.lt hn⟩
theorem Box.below {w w' : World} {b : Nat} {v0 v1 v2 v3 : Value} (h : Box w b v0 v1 v2 v3) (hb : Below w.heap.size w w') : Box w' b v0 v1 v2 v3 := h.only (Only.of_below (S := fun _ => False) hb) (fun h => h)
theorem MemRow.below {B : Nat} {w w' : World} {mb : Nat} {v : Value} {l : List (Bool × Nat)} (h : MemRow B w mb v l) (hb : Below w.heap.size w w') : MemRow B w' mb v l :=
  h.only (Only.of_below (S := fun _ => False) hb) (fun h => h) (fun _ _ h => h)
theorem MemRow.new (w : World) : MemRow w.heap.size (w.alloc (.cells #[.slice none 0 0] 83)) w.heap.size (.slice none 0 0) [] :=
  ⟨by rw [World.cell?_alloc_at _ _ _ _ rfl]; rfl, World.ownsRow_nil _ _ _ _, Thaw.new _ _ _, KindAt.new _ _ _, Nat.le_refl _, by simp⟩
theorem tagT_no {F : FS} {o n : Nat} (h : ∀ s, F.tag s = 0) : tagT F o n = false := decide_eq_false fun ⟨k, _, hk⟩ => hk (h _)
theorem hasT_yes {F : FS} {o n : Nat} (hn : 0 < n) (h : F.has (o / 8) = true) : hasT F o n = true := decide_eq_true ⟨0, by omega, by simpa using h⟩
theorem hasT_no {F : FS} {o n : Nat} (h : ∀ s, F.has s = false) : hasT F o n = false := decide_eq_false fun ⟨k, _, hk⟩ => by rw [h] at hk; exact absurd hk (by decide)
theorem below2 {w : World} {o o2 : Obj} : Below w.heap.size w ((w.alloc o).alloc o2) := ((Below.refl _ _).alloc (Nat.le_refl _) _).alloc (by simp) _

/-- two boxes made in a row. -/
theorem boxes {w : World} {v0 v1 v2 v3 u0 u1 u2 u3 : Value} : ∃ W, Hid (W = (w.alloc (.cells #[v0, v1, v2, v3] 63)).alloc (.cells #[u0, u1, u2, u3] 63)) ∧ Box W w.heap.size v0 v1 v2 v3 ∧ Box W (w.heap.size + 1) u0 u1 u2 u3 ∧ Below w.heap.size w W := by
  refine ⟨_, Lib.hid rfl, Box.new.below (Below.one _), ?_, below2⟩
  have h := Box.new (w := w.alloc (.cells #[v0, v1, v2, v3] 63)) (v0 := u0) (v1 := u1) (v2 := u2) (v3 := u3)
  simpa using h
set_option maxRecDepth 100000 in
set_option maxHeartbeats 4000000 in
theorem f39_ok (w : World) : Calls Try.prog 39 #[] w fun e w' => e = .returned (.bool true) ∧ Below w.heap.size w w' := by
  go_enter Try.func39, Try.ntmps39
  go_wp2_with fail
  refine (f14_ok w).mono ?_; rintro e w1 ⟨rfl, hw1⟩
  have hM1 : Hid (MemRow w.heap.size w1 w.heap.size (.slice none 0 0) []) := Lib.hid (hw1 ▸ MemRow.new w)
  have hb1 : Below w.heap.size w w1 := hw1 ▸ Below.one _
  clear hw1
  go_wp2_with fail
  refine (f40_ok w.heap.size w1 hM1 (Lib.hid (by decide)) (Lib.hid hb1.size)).mono ?_; rintro e w2 ⟨fb, v2, rfl, M2, F2, hfb, O2⟩
  have hM2 := Lib.hid M2
  have hF2 := Lib.hid F2
  have hB2 : Hid (Below w.heap.size w w2) := Lib.hid (hb1.trans (O2.belowN hb1.size (fun k hk he => by
    rcases he with rfl | he
    · omega
    · simp [Value.ownBlock] at he)))
  clear M2 F2 O2
  go_wp2_with fail
  obtain ⟨W, hW, hP, hQ, hbW⟩ := boxes (w := w2) (v0 := .int .i64 2) (v1 := .int .u64 0) (v2 := .int .i64 1) (v3 := .int .i64 (-8)) (u0 := .int .i64 3) (u1 := .int .u64 0) (u2 := .int .i64 0) (u3 := .int .i64 0)
  rw [← hW.out]
  obtain ⟨b, hb⟩ : ∃ b, Hid (w2.heap.size = b) := ⟨_, Lib.hid rfl⟩
  rw [hb.out] at hP hQ ⊢
  have hbl : Hid (fb < b) := Lib.hid (by rw [← hb.out]; exact hF2.out.kind.lt)
  have hM3 := Lib.hid (hM2.out.below hbW)
  have hF3 := Lib.hid (hF2.out.below.out W hbW)
  have hB3 : Hid (Below w.heap.size w W) := Lib.hid (below_then hB2.out hbW)
  refine (st_ptr hM3 (i := 1) (j := 0) (Lib.hid (by decide)) hF3 (Lib.hid rfl) (off := -8) (o := 504) (Lib.hid (by decide)) (Lib.hid (by decide)) (Lib.hid (by decide)) (.int .u64 0) 3 0 0 0 (by decide) (by decide) (Lib.hid (tagT_no fun _ => rfl))).mono ?_; rintro e w3 ⟨rfl, O3, F3, M3⟩
  have hM4 := Lib.hid M3
  have hF4 := Lib.hid F3
  have hB4 : Hid (Below w.heap.size w w3) := Lib.hid (hB3.out.trans (O3.belowN hB3.out.size (fun k hk he => by have := hb1.size; omega)))
  have hP4 := hP.only O3 (fun he => by have := hbl.out; omega)
  have hQ4 := hQ.only O3 (fun he => by have := hbl.out; omega)
  have hPP := Lib.hid hP4
  have hQQ := Lib.hid hQ4
  obtain ⟨p0, p1, p2, p3, -⟩ := hP4
  obtain ⟨q0, q1, q2, q3, -⟩ := hQ4
  clear F3 M3 O3 hP hQ hbW hW
  go_wp2_with fail
  refine (ld_ptr hM4 (i := 1) (j := 0) (Lib.hid (by decide)) hF4 (Lib.hid rfl) (off := -8) (o := 504) (Lib.hid (by decide)) (Lib.hid (by decide)) (Lib.hid (by decide)) (.int .u64 0) (Lib.hid rfl) (Lib.hid (by simp [putP, upd]))).mono ?_; rintro e w4 ⟨rfl, hb4⟩
  have e0 : (putP FS.zero (504 / 8) 3 0 0 0).pk (504 / 8) = 3 := by simp [putP, upd]
  have e1 : (putP FS.zero (504 / 8) 3 0 0 0).pn (504 / 8) = 0 := by simp [putP, upd]
  have e2 : (putP FS.zero (504 / 8) 3 0 0 0).pi (504 / 8) = 0 := by simp [putP, upd]
  have e3 : (putP FS.zero (504 / 8) 3 0 0 0).po (504 / 8) = 0 := by simp [putP, upd]
  rw [e0, e1, e2, e3]
  clear p0 p1 p2 p3 q0 q1 q2 q3 e0 e1 e2 e3
  have hv0 : Below w3.heap.size w3 (w4.alloc (.cells #[.int .i64 3, .int .u64 0, .int .i64 0, .int .i64 0] 63)) := below_then hb4 (Below.one _)
  have hM5 := Lib.hid (hM4.out.below hv0)
  have hF5 := Lib.hid (hF4.out.below.out _ hv0)
  have hB5 : Hid (Below w.heap.size w (w4.alloc (.cells #[.int .i64 3, .int .u64 0, .int .i64 0, .int .i64 0] 63))) := Lib.hid (below_then hB4.out hv0)
  have hV5 : Hid (Box (w4.alloc (.cells #[.int .i64 3, .int .u64 0, .int .i64 0, .int .i64 0] 63)) w4.heap.size (.int .i64 3) (.int .u64 0) (.int .i64 0) (.int .i64 0)) := Lib.hid Box.new
  have hQ5 := Lib.hid (hQQ.out.below hv0)
  obtain ⟨p0, p1, p2, p3, -⟩ := hPP.out.below hv0
  have hr6 : Hid (readT (putP FS.zero (504 / 8) 3 0 0 0) 504 4 = 6) := Lib.hid (by
    unfold readT
    rw [tagT_no (fun _ => rfl), hasT_yes (by decide) (by simp [putP, upd])]; rfl)
  clear hb4 hv0
  go_wp2_with fail
  refine (ld_trap hM5 (i := 1) (j := 0) (Lib.hid (by decide)) hF5 (Lib.hid rfl) (off := -8) (o := 504) (Lib.hid (by decide)) (n := 4) (Lib.hid (by decide)) (Lib.hid (by decide)) (.int .u64 0) (by decide) hr6 (by decide)).mono ?_; rintro e w5 ⟨rfl, hb5⟩
  clear p0 p1 p2 p3
  have hq5 := Lib.hid (hQ5.out.below hb5)
  have hv5 := Lib.hid (hV5.out.below hb5)
  have q0 : ∀ o, (w5.alloc o).cell? ⟨b + 1, 0, none⟩ = _ := fun o => (hq5.out.below (Below.one o)).c0
  have q1 : ∀ o, (w5.alloc o).cell? ⟨b + 1, 1, none⟩ = _ := fun o => (hq5.out.below (Below.one o)).c1
  have q2 : ∀ o, (w5.alloc o).cell? ⟨b + 1, 2, none⟩ = _ := fun o => (hq5.out.below (Below.one o)).c2
  have q3 : ∀ o, (w5.alloc o).cell? ⟨b + 1, 3, none⟩ = _ := fun o => (hq5.out.below (Below.one o)).c3
  have v0 : ∀ o, (w5.alloc o).cell? ⟨w4.heap.size, 0, none⟩ = _ := fun o => (hv5.out.below (Below.one o)).c0
  have v1 : ∀ o, (w5.alloc o).cell? ⟨w4.heap.size, 1, none⟩ = _ := fun o => (hv5.out.below (Below.one o)).c1
  have v2 : ∀ o, (w5.alloc o).cell? ⟨w4.heap.size, 2, none⟩ = _ := fun o => (hv5.out.below (Below.one o)).c2
  have v3 : ∀ o, (w5.alloc o).cell? ⟨w4.heap.size, 3, none⟩ = _ := fun o => (hv5.out.below (Below.one o)).c3
  have hB6 := Lib.hid (below_then hB5.out hb5)
  clear hb5
  go_wp2_with fail
  go_ret
  exact ⟨rfl, below_then hB6.out (Below.one _)⟩
end Go.Proofs.Ytmjeloinibembaa
