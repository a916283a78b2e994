/-
  RegionKeeps: the walk of the law (numbers, part 7).
-/
import Derived.Test.YtmjeloinibembaaKeepsL
namespace Go.Proofs.Ytmjeloinibembaa
open Go.RowKit
set_option linter.unusedVariables false
set_option linter.unusedSimpArgs false
set_option maxRecDepth 100000 in
set_option maxHeartbeats 8000000 in
theorem keeps_n_8_1 (a0 a1 : Int) (x y : Nat) (hx : x < 2 ^ 64) (hy : y < 2 ^ 64) (w : World) :
    Calls Try.prog 7 #[.int .i64 a0, .int .i64 a1, .int .i64 8, .int .i64 1, .int .u64 x, .int .u64 y, .bool false] w fun e w' => e = .returned (.bool true) ∧ Below w.heap.size w w' := by
  have hx' := Lib.hid hx
  have hy' := Lib.hid hy
  clear hx hy
  go_enter Try.func7, Try.ntmps7
  go_wp2_with fail
  refine (f39_ok w).mono ?_; rintro e w1 ⟨rfl, hb1⟩
  have hb1' := Lib.hid hb1
  go_wp2_with fail
  all_goals try (go_ret; exact ⟨rfl, hb1⟩)
  clear hb1
  obtain ⟨o1, ho1⟩ : ∃ o : Nat, Hid (a0 = (o : Int) - 512) := ⟨(a0 + 512).toNat, Lib.hid (by omega)⟩
  obtain ⟨o2, ho2⟩ : ∃ o : Nat, Hid (a1 = (o : Int) - 512) := ⟨(a1 + 512).toNat, Lib.hid (by omega)⟩
  have hr1 : Hid (o1 ≤ 504 ∧ o2 ≤ 504) := Lib.hid (by have := ho1.out; have := ho2.out; omega)
  refine (f14_ok w1).mono ?_; rintro e w2 ⟨rfl, hw2⟩
  have hM2 : Hid (MemRow w1.heap.size w2 w1.heap.size (.slice none 0 0) []) := Lib.hid (hw2 ▸ MemRow.new w1)
  have hb2 : Hid (Below w1.heap.size w1 w2) := Lib.hid (hw2 ▸ Below.one _)
  clear hw2
  go_wp2_with fail
  refine (f40_ok w1.heap.size w2 hM2 (Lib.hid (by decide)) (Lib.hid hb2.out.size)).mono ?_; rintro e w3 ⟨fb, v3, rfl, M3, F3, hfb, O3⟩
  have hB3 : Hid (Below w1.heap.size w1 w3) := Lib.hid (hb2.out.trans (O3.belowN hb2.out.size (fun k hk he => by
    rcases he with rfl | he
    · omega
    · simp [Value.ownBlock] at he)))
  have hM3 := Lib.hid M3
  have hF3 := Lib.hid F3
  have hfb' : Hid (w1.heap.size ≤ fb) := Lib.hid (by have := hb2.out.size; omega)
  clear M3 F3 O3 hfb
  go_wp2_with fail
  refine (f40_ok w1.heap.size w3 hM3 (Lib.hid (by simp)) (Lib.hid hB3.out.size)).mono ?_; rintro e w4 ⟨gb, v4, rfl, M4, G4, hgb, O4⟩
  have hB4 : Hid (Below w1.heap.size w1 w4) := Lib.hid (hB3.out.trans (O4.belowN hB3.out.size (fun k hk he => by
    rcases he with rfl | he
    · omega
    · have := (own_kind hM3.out.own he).2; omega)))
  have hF4 := Lib.hid (hF3.out.only O4 (mem_no hM3.out hF3.out.kind (by decide) (by decide)))
  have hfg : Hid (fb ≠ gb) := Lib.hid (by have := hF3.out.kind.lt; omega)
  have hgb' : Hid (w1.heap.size ≤ gb) := Lib.hid (by have := hB3.out.size; omega)
  have hM4 := Lib.hid M4
  have hG4 := Lib.hid G4
  clear M4 G4 O4 hgb
  go_wp2_with fail
  obtain ⟨W, hW, hP5, hQ5, hV5, hbW⟩ := boxes3 (w := w4) (v0 := .int .i64 2) (v1 := .int .u64 0) (v2 := .int .i64 1) (v3 := .int .i64 a0) (u0 := .int .i64 2) (u1 := .int .u64 0) (u2 := .int .i64 1) (u3 := .int .i64 a1) (t0 := .int .i64 1) (t1 := .int .u64 x) (t2 := .int .i64 0) (t3 := .int .i64 0)
  rw [← hW.out]
  obtain ⟨b, hb⟩ : ∃ b, Hid (w4.heap.size = b) := ⟨_, Lib.hid rfl⟩
  rw [hb.out] at hP5 hQ5 hV5 ⊢
  have hbl : Hid (fb < b ∧ gb < b) := Lib.hid (by have := hF4.out.kind.lt; have := hG4.out.kind.lt; have := hb.out; omega)
  have hM5 := Lib.hid (hM4.out.below hbW)
  have hF5 := Lib.hid (hF4.out.below.out W hbW)
  have hG5 := Lib.hid (hG4.out.below.out W hbW)
  have hB5 : Hid (Below w1.heap.size w1 W) := Lib.hid (below_then hB4.out hbW)
  clear hbW hW
  refine (st_num hM5 (i := 1) (j := 0) (Lib.hid (by decide)) hF5 (Lib.hid rfl) (off := a0) (o := o1) ho1 (n := 8) (Lib.hid (by decide)) (Lib.hid (by have := hr1.out; omega)) (.int .u64 0) hx'.out 0 0 (Lib.hid (tagT_no fun _ => rfl))).mono ?_; rintro e w6 ⟨rfl, O6, F6, M6⟩
  change FrameAt w6 fb (wrote _ o1 8 (gB x)) at F6
  have hM6 := Lib.hid M6
  have hF6 := Lib.hid F6
  have hG6 := Lib.hid (hG5.out.only O6 (fun he => hfg.out he.symm))
  have hP6 := hP5.only O6 (fun he => by have := hbl.out; omega)
  have hQ6 := hQ5.only O6 (fun he => by have := hbl.out; omega)
  have hV6 := hV5.only O6 (fun he => by have := hbl.out; omega)
  have hB6 : Hid (Below w1.heap.size w1 w6) := Lib.hid (hB5.out.trans (O6.belowN hB5.out.size (fun k hk he => by have := hfb'.out; omega)))
  clear M6 F6 O6
  have q0 := hQ6.c0
  have q1 := hQ6.c1
  have q2 := hQ6.c2
  have q3 := hQ6.c3
  go_wp2_with fail
  refine (st_num hM6 (i := 1) (j := 0) (Lib.hid (by decide)) hF6 (Lib.hid rfl) (off := a1) (o := o2) ho2 (n := 1) (Lib.hid (by decide)) (Lib.hid (by have := hr1.out; omega)) (.int .u64 0) hy'.out 0 0 (Lib.hid (tagT_no fun s => by rw [wrote_tag]; rfl))).mono ?_; rintro e w7 ⟨rfl, O7, F7, M7⟩
  change FrameAt w7 fb (wrote _ o2 1 (gB y)) at F7
  clear q0 q1 q2 q3
  have hM7 := Lib.hid M7
  have hF7 := Lib.hid F7
  have hG7 := Lib.hid (hG6.out.only O7 (fun he => hfg.out he.symm))
  have hP7 := hP6.only O7 (fun he => by have := hbl.out; omega)
  have hQ7 := hQ6.only O7 (fun he => by have := hbl.out; omega)
  have hV7 := hV6.only O7 (fun he => by have := hbl.out; omega)
  have hB7 : Hid (Below w1.heap.size w1 w7) := Lib.hid (hB6.out.trans (O7.belowN hB6.out.size (fun k hk he => by have := hfb'.out; omega)))
  clear M7 F7 O7
  have p0 := hP7.c0
  have p1 := hP7.c1
  have p2 := hP7.c2
  have p3 := hP7.c3
  go_wp2_with fail
  refine (ld_num hM7 (i := 1) (j := 0) (Lib.hid (by decide)) hF7 (Lib.hid rfl) (off := a0) (o := o1) ho1 (n := 8) (Lib.hid (by decide)) (Lib.hid (by have := hr1.out; omega)) (.int .u64 0) (Lib.hid read_two)).mono ?_; rintro e w8 ⟨rfl, hb8⟩
  clear p0 p1 p2 p3
  obtain ⟨z, hz⟩ : ∃ z, Hid (numB (fun i => (wrote (wrote FS.zero o1 8 (gB x)) o2 1 (gB y)).b (o1 + i)) 8 = z) := ⟨_, Lib.hid rfl⟩
  rw [hz.out]
  have hb8' := Lib.hid hb8
  clear hb8
  have hbd : Hid (-512 ≤ a0 ∧ a0 ≤ -8 ∧ -512 ≤ a1 ∧ a1 ≤ -8) := Lib.hid (by omega)
  have hT1 := Lib.hid (fun s => (wrote_tag FS.zero o1 8 (gB x) s).trans rfl : ∀ s, (wrote FS.zero o1 8 (gB x)).tag s = 0)
  have hbmb : Hid (w1.heap.size < b) := Lib.hid (by have := hfb'.out; have := hbl.out; omega)
  by_cases d1 : a0 + 8 ≤ a1
  · have hzx : Hid (z = x % 2 ^ (8 * 8)) := Lib.hid (by rw [← hz.out]; exact num_two (by have := ho1.out; have := ho2.out; omega))
    have hzx' : z = x := by rw [hzx.out]; exact Nat.mod_eq_of_lt hx'.out
    subst hzx'
    have hbA : Hid (Below w7.heap.size w7 (w8.alloc (.cells #[.int .i64 1, .int .u64 z, .int .i64 0, .int .i64 0] 63))) := Lib.hid (below_then hb8'.out (Below.one _))
    have hM9 := Lib.hid (hM7.out.below hbA.out)
    have hF9 := Lib.hid (hF7.out.below.out _ hbA.out)
    have hG9 := Lib.hid (hG7.out.below.out _ hbA.out)
    have hP9 := hP7.below hbA.out
    have hQ9 := hQ7.below hbA.out
    have hV9 := hV7.below hbA.out
    have hB9 := Lib.hid (below_then hB7.out hbA.out)
    have hZ9 : Box (w8.alloc (.cells #[.int .i64 1, .int .u64 z, .int .i64 0, .int .i64 0] 63)) w8.heap.size (.int .i64 1) (.int .u64 z) (.int .i64 0) (.int .i64 0) := Box.new
    have hw8 : Hid (w7.heap.size ≤ w8.heap.size) := Lib.hid hb8'.out.size
    have v0 := hV9.c0
    have v1 := hV9.c1
    have v2 := hV9.c2
    have v3 := hV9.c3
    have z0 := hZ9.c0
    have z1 := hZ9.c1
    have z2 := hZ9.c2
    have z3 := hZ9.c3
    have q0 := hQ9.c0
    have q1 := hQ9.c1
    have q2 := hQ9.c2
    have q3 := hQ9.c3
    go_wp2_with fail
    refine (ld_num hM9 (i := 1) (j := 0) (Lib.hid (by decide)) hF9 (Lib.hid rfl) (off := a1) (o := o2) ho2 (n := 1) (Lib.hid (by decide)) (Lib.hid (by have := hr1.out; omega)) (.int .u64 0) (Lib.hid (read_self hT1.out (by decide)))).mono ?_; rintro e w10 ⟨rfl, hb10⟩
    rw [num_self]
    clear q0 q1 q2 q3 v0 v1 v2 v3 z0 z1 z2 z3
    obtain ⟨ym, hym⟩ : ∃ ym, Hid (y % 2 ^ (8 * 1) = ym) := ⟨_, Lib.hid rfl⟩
    rw [hym.out]
    have hE2 : (y : Int) % 256 = (ym : Int) := by rw [← hym.out]; simp
    have hE2' : (y : Int).tmod 256 = (ym : Int) := by rw [Int.tmod_eq_emod_of_nonneg (by omega)]; exact hE2
    have hbx : Hid (∀ ob, Below (w8.alloc (.cells #[.int .i64 1, .int .u64 z, .int .i64 0, .int .i64 0] 63)).heap.size (w8.alloc (.cells #[.int .i64 1, .int .u64 z, .int .i64 0, .int .i64 0] 63)) (w10.alloc ob)) := Lib.hid fun ob => below_then hb10 (Below.one ob)
    have hMx : Hid (∀ ob, MemRow w1.heap.size (w10.alloc ob) w1.heap.size v4 ([] ++ [(true, fb)] ++ [(true, gb)])) := Lib.hid fun ob => hM9.out.below (hbx.out ob)
    have hGx : Hid (∀ ob, FrameAt (w10.alloc ob) gb FS.zero) := Lib.hid fun ob => hG9.out.below.out _ (hbx.out ob)
    have hBx : Hid (∀ ob, Below w1.heap.size w1 (w10.alloc ob)) := Lib.hid fun ob => below_then hB9.out (hbx.out ob)
    clear hb10
    go_wp2_with fail
    refine (ld_trap (Lib.hid (hMx.out _)) (i := 2) (j := 1) (Lib.hid (by decide)) (Lib.hid (hGx.out _)) (Lib.hid rfl) (off := a0) (o := o1) ho1 (n := 8) (Lib.hid (by decide)) (Lib.hid (by have := hr1.out; omega)) (.int .u64 0) (by simp [FS.zero]) (Lib.hid (read_zero' (by decide))) (by decide)).mono ?_; rintro e w99 ⟨rfl, hb99⟩
    have hX : Hid (Box (w10.alloc (.cells #[.int .i64 1, .int .u64 ym, .int .i64 0, .int .i64 0] 63)) w10.heap.size (.int .i64 1) (.int .u64 ym) (.int .i64 0) (.int .i64 0)) := Lib.hid Box.new
    have hBz : Hid (∀ ob, Below w1.heap.size w1 (w99.alloc ob)) := Lib.hid fun ob => below_then (hBx.out _) (below_then hb99 (Below.one ob))
    have x0 := fun ob => (hX.out.below (below_then hb99 (Below.one ob))).c0
    have x1 := fun ob => (hX.out.below (below_then hb99 (Below.one ob))).c1
    have x2 := fun ob => (hX.out.below (below_then hb99 (Below.one ob))).c2
    have x3 := fun ob => (hX.out.below (below_then hb99 (Below.one ob))).c3
    clear hb99
    go_wp2_with fail
    go_ret
    exact ⟨rfl, below_then hb1'.out (hBz.out _)⟩
  by_cases d2 : a1 + 1 ≤ a0
  · have hzx : Hid (z = x % 2 ^ (8 * 8)) := Lib.hid (by rw [← hz.out]; exact num_two (by have := ho1.out; have := ho2.out; omega))
    have hzx' : z = x := by rw [hzx.out]; exact Nat.mod_eq_of_lt hx'.out
    subst hzx'
    have hbA : Hid (Below w7.heap.size w7 (w8.alloc (.cells #[.int .i64 1, .int .u64 z, .int .i64 0, .int .i64 0] 63))) := Lib.hid (below_then hb8'.out (Below.one _))
    have hM9 := Lib.hid (hM7.out.below hbA.out)
    have hF9 := Lib.hid (hF7.out.below.out _ hbA.out)
    have hG9 := Lib.hid (hG7.out.below.out _ hbA.out)
    have hP9 := hP7.below hbA.out
    have hQ9 := hQ7.below hbA.out
    have hV9 := hV7.below hbA.out
    have hB9 := Lib.hid (below_then hB7.out hbA.out)
    have hZ9 : Box (w8.alloc (.cells #[.int .i64 1, .int .u64 z, .int .i64 0, .int .i64 0] 63)) w8.heap.size (.int .i64 1) (.int .u64 z) (.int .i64 0) (.int .i64 0) := Box.new
    have hw8 : Hid (w7.heap.size ≤ w8.heap.size) := Lib.hid hb8'.out.size
    have v0 := hV9.c0
    have v1 := hV9.c1
    have v2 := hV9.c2
    have v3 := hV9.c3
    have z0 := hZ9.c0
    have z1 := hZ9.c1
    have z2 := hZ9.c2
    have z3 := hZ9.c3
    have q0 := hQ9.c0
    have q1 := hQ9.c1
    have q2 := hQ9.c2
    have q3 := hQ9.c3
    go_wp2_with fail
    refine (ld_num hM9 (i := 1) (j := 0) (Lib.hid (by decide)) hF9 (Lib.hid rfl) (off := a1) (o := o2) ho2 (n := 1) (Lib.hid (by decide)) (Lib.hid (by have := hr1.out; omega)) (.int .u64 0) (Lib.hid (read_self hT1.out (by decide)))).mono ?_; rintro e w10 ⟨rfl, hb10⟩
    rw [num_self]
    clear q0 q1 q2 q3 v0 v1 v2 v3 z0 z1 z2 z3
    obtain ⟨ym, hym⟩ : ∃ ym, Hid (y % 2 ^ (8 * 1) = ym) := ⟨_, Lib.hid rfl⟩
    rw [hym.out]
    have hE2 : (y : Int) % 256 = (ym : Int) := by rw [← hym.out]; simp
    have hE2' : (y : Int).tmod 256 = (ym : Int) := by rw [Int.tmod_eq_emod_of_nonneg (by omega)]; exact hE2
    have hbx : Hid (∀ ob, Below (w8.alloc (.cells #[.int .i64 1, .int .u64 z, .int .i64 0, .int .i64 0] 63)).heap.size (w8.alloc (.cells #[.int .i64 1, .int .u64 z, .int .i64 0, .int .i64 0] 63)) (w10.alloc ob)) := Lib.hid fun ob => below_then hb10 (Below.one ob)
    have hMx : Hid (∀ ob, MemRow w1.heap.size (w10.alloc ob) w1.heap.size v4 ([] ++ [(true, fb)] ++ [(true, gb)])) := Lib.hid fun ob => hM9.out.below (hbx.out ob)
    have hGx : Hid (∀ ob, FrameAt (w10.alloc ob) gb FS.zero) := Lib.hid fun ob => hG9.out.below.out _ (hbx.out ob)
    have hBx : Hid (∀ ob, Below w1.heap.size w1 (w10.alloc ob)) := Lib.hid fun ob => below_then hB9.out (hbx.out ob)
    clear hb10
    go_wp2_with fail
    refine (ld_trap (Lib.hid (hMx.out _)) (i := 2) (j := 1) (Lib.hid (by decide)) (Lib.hid (hGx.out _)) (Lib.hid rfl) (off := a0) (o := o1) ho1 (n := 8) (Lib.hid (by decide)) (Lib.hid (by have := hr1.out; omega)) (.int .u64 0) (by simp [FS.zero]) (Lib.hid (read_zero' (by decide))) (by decide)).mono ?_; rintro e w99 ⟨rfl, hb99⟩
    have hX : Hid (Box (w10.alloc (.cells #[.int .i64 1, .int .u64 ym, .int .i64 0, .int .i64 0] 63)) w10.heap.size (.int .i64 1) (.int .u64 ym) (.int .i64 0) (.int .i64 0)) := Lib.hid Box.new
    have hBz : Hid (∀ ob, Below w1.heap.size w1 (w99.alloc ob)) := Lib.hid fun ob => below_then (hBx.out _) (below_then hb99 (Below.one ob))
    have x0 := fun ob => (hX.out.below (below_then hb99 (Below.one ob))).c0
    have x1 := fun ob => (hX.out.below (below_then hb99 (Below.one ob))).c1
    have x2 := fun ob => (hX.out.below (below_then hb99 (Below.one ob))).c2
    have x3 := fun ob => (hX.out.below (below_then hb99 (Below.one ob))).c3
    clear hb99
    go_wp2_with fail
    go_ret
    exact ⟨rfl, below_then hb1'.out (hBz.out _)⟩
  have hbA : Hid (Below w7.heap.size w7 (w8.alloc (.cells #[.int .i64 1, .int .u64 z, .int .i64 0, .int .i64 0] 63))) := Lib.hid (below_then hb8'.out (Below.one _))
  have hM9 := Lib.hid (hM7.out.below hbA.out)
  have hF9 := Lib.hid (hF7.out.below.out _ hbA.out)
  have hG9 := Lib.hid (hG7.out.below.out _ hbA.out)
  have hP9 := hP7.below hbA.out
  have hQ9 := hQ7.below hbA.out
  have hV9 := hV7.below hbA.out
  have hB9 := Lib.hid (below_then hB7.out hbA.out)
  have hZ9 : Box (w8.alloc (.cells #[.int .i64 1, .int .u64 z, .int .i64 0, .int .i64 0] 63)) w8.heap.size (.int .i64 1) (.int .u64 z) (.int .i64 0) (.int .i64 0) := Box.new
  have hw8 : Hid (w7.heap.size ≤ w8.heap.size) := Lib.hid hb8'.out.size
  have q0 := hQ9.c0
  have q1 := hQ9.c1
  have q2 := hQ9.c2
  have q3 := hQ9.c3
  go_wp2_with fail
  refine (ld_num hM9 (i := 1) (j := 0) (Lib.hid (by decide)) hF9 (Lib.hid rfl) (off := a1) (o := o2) ho2 (n := 1) (Lib.hid (by decide)) (Lib.hid (by have := hr1.out; omega)) (.int .u64 0) (Lib.hid (read_self hT1.out (by decide)))).mono ?_; rintro e w10 ⟨rfl, hb10⟩
  rw [num_self]
  clear q0 q1 q2 q3
  obtain ⟨ym, hym⟩ : ∃ ym, Hid (y % 2 ^ (8 * 1) = ym) := ⟨_, Lib.hid rfl⟩
  rw [hym.out]
  have hE2 : (y : Int) % 256 = (ym : Int) := by rw [← hym.out]; simp
  have hE2' : (y : Int).tmod 256 = (ym : Int) := by rw [Int.tmod_eq_emod_of_nonneg (by omega)]; exact hE2
  have hbx : Hid (∀ ob, Below (w8.alloc (.cells #[.int .i64 1, .int .u64 z, .int .i64 0, .int .i64 0] 63)).heap.size (w8.alloc (.cells #[.int .i64 1, .int .u64 z, .int .i64 0, .int .i64 0] 63)) (w10.alloc ob)) := Lib.hid fun ob => below_then hb10 (Below.one ob)
  have hMx : Hid (∀ ob, MemRow w1.heap.size (w10.alloc ob) w1.heap.size v4 ([] ++ [(true, fb)] ++ [(true, gb)])) := Lib.hid fun ob => hM9.out.below (hbx.out ob)
  have hGx : Hid (∀ ob, FrameAt (w10.alloc ob) gb FS.zero) := Lib.hid fun ob => hG9.out.below.out _ (hbx.out ob)
  have hBx : Hid (∀ ob, Below w1.heap.size w1 (w10.alloc ob)) := Lib.hid fun ob => below_then hB9.out (hbx.out ob)
  clear hb10
  go_wp2_with fail
  refine (ld_trap (Lib.hid (hMx.out _)) (i := 2) (j := 1) (Lib.hid (by decide)) (Lib.hid (hGx.out _)) (Lib.hid rfl) (off := a0) (o := o1) ho1 (n := 8) (Lib.hid (by decide)) (Lib.hid (by have := hr1.out; omega)) (.int .u64 0) (by simp [FS.zero]) (Lib.hid (read_zero' (by decide))) (by decide)).mono ?_; rintro e w99 ⟨rfl, hb99⟩
  have hX : Hid (Box (w10.alloc (.cells #[.int .i64 1, .int .u64 ym, .int .i64 0, .int .i64 0] 63)) w10.heap.size (.int .i64 1) (.int .u64 ym) (.int .i64 0) (.int .i64 0)) := Lib.hid Box.new
  have hBz : Hid (∀ ob, Below w1.heap.size w1 (w99.alloc ob)) := Lib.hid fun ob => below_then (hBx.out _) (below_then hb99 (Below.one ob))
  have x0 := fun ob => (hX.out.below (below_then hb99 (Below.one ob))).c0
  have x1 := fun ob => (hX.out.below (below_then hb99 (Below.one ob))).c1
  have x2 := fun ob => (hX.out.below (below_then hb99 (Below.one ob))).c2
  have x3 := fun ob => (hX.out.below (below_then hb99 (Below.one ob))).c3
  clear hb99
  go_wp2_with fail
  go_ret
  exact ⟨rfl, below_then hb1'.out (hBz.out _)⟩
set_option maxRecDepth 100000 in
set_option maxHeartbeats 8000000 in
theorem keeps_n_8_2 (a0 a1 : Int) (x y : Nat) (hx : x < 2 ^ 64) (hy : y < 2 ^ 64) (w : World) :
    Calls Try.prog 7 #[.int .i64 a0, .int .i64 a1, .int .i64 8, .int .i64 2, .int .u64 x, .int .u64 y, .bool false] w fun e w' => e = .returned (.bool true) ∧ Below w.heap.size w w' := by
  have hx' := Lib.hid hx
  have hy' := Lib.hid hy
  clear hx hy
  go_enter Try.func7, Try.ntmps7
  go_wp2_with fail
  refine (f39_ok w).mono ?_; rintro e w1 ⟨rfl, hb1⟩
  have hb1' := Lib.hid hb1
  go_wp2_with fail
  all_goals try (go_ret; exact ⟨rfl, hb1⟩)
  clear hb1
  obtain ⟨o1, ho1⟩ : ∃ o : Nat, Hid (a0 = (o : Int) - 512) := ⟨(a0 + 512).toNat, Lib.hid (by omega)⟩
  obtain ⟨o2, ho2⟩ : ∃ o : Nat, Hid (a1 = (o : Int) - 512) := ⟨(a1 + 512).toNat, Lib.hid (by omega)⟩
  have hr1 : Hid (o1 ≤ 504 ∧ o2 ≤ 504) := Lib.hid (by have := ho1.out; have := ho2.out; omega)
  refine (f14_ok w1).mono ?_; rintro e w2 ⟨rfl, hw2⟩
  have hM2 : Hid (MemRow w1.heap.size w2 w1.heap.size (.slice none 0 0) []) := Lib.hid (hw2 ▸ MemRow.new w1)
  have hb2 : Hid (Below w1.heap.size w1 w2) := Lib.hid (hw2 ▸ Below.one _)
  clear hw2
  go_wp2_with fail
  refine (f40_ok w1.heap.size w2 hM2 (Lib.hid (by decide)) (Lib.hid hb2.out.size)).mono ?_; rintro e w3 ⟨fb, v3, rfl, M3, F3, hfb, O3⟩
  have hB3 : Hid (Below w1.heap.size w1 w3) := Lib.hid (hb2.out.trans (O3.belowN hb2.out.size (fun k hk he => by
    rcases he with rfl | he
    · omega
    · simp [Value.ownBlock] at he)))
  have hM3 := Lib.hid M3
  have hF3 := Lib.hid F3
  have hfb' : Hid (w1.heap.size ≤ fb) := Lib.hid (by have := hb2.out.size; omega)
  clear M3 F3 O3 hfb
  go_wp2_with fail
  refine (f40_ok w1.heap.size w3 hM3 (Lib.hid (by simp)) (Lib.hid hB3.out.size)).mono ?_; rintro e w4 ⟨gb, v4, rfl, M4, G4, hgb, O4⟩
  have hB4 : Hid (Below w1.heap.size w1 w4) := Lib.hid (hB3.out.trans (O4.belowN hB3.out.size (fun k hk he => by
    rcases he with rfl | he
    · omega
    · have := (own_kind hM3.out.own he).2; omega)))
  have hF4 := Lib.hid (hF3.out.only O4 (mem_no hM3.out hF3.out.kind (by decide) (by decide)))
  have hfg : Hid (fb ≠ gb) := Lib.hid (by have := hF3.out.kind.lt; omega)
  have hgb' : Hid (w1.heap.size ≤ gb) := Lib.hid (by have := hB3.out.size; omega)
  have hM4 := Lib.hid M4
  have hG4 := Lib.hid G4
  clear M4 G4 O4 hgb
  go_wp2_with fail
  obtain ⟨W, hW, hP5, hQ5, hV5, hbW⟩ := boxes3 (w := w4) (v0 := .int .i64 2) (v1 := .int .u64 0) (v2 := .int .i64 1) (v3 := .int .i64 a0) (u0 := .int .i64 2) (u1 := .int .u64 0) (u2 := .int .i64 1) (u3 := .int .i64 a1) (t0 := .int .i64 1) (t1 := .int .u64 x) (t2 := .int .i64 0) (t3 := .int .i64 0)
  rw [← hW.out]
  obtain ⟨b, hb⟩ : ∃ b, Hid (w4.heap.size = b) := ⟨_, Lib.hid rfl⟩
  rw [hb.out] at hP5 hQ5 hV5 ⊢
  have hbl : Hid (fb < b ∧ gb < b) := Lib.hid (by have := hF4.out.kind.lt; have := hG4.out.kind.lt; have := hb.out; omega)
  have hM5 := Lib.hid (hM4.out.below hbW)
  have hF5 := Lib.hid (hF4.out.below.out W hbW)
  have hG5 := Lib.hid (hG4.out.below.out W hbW)
  have hB5 : Hid (Below w1.heap.size w1 W) := Lib.hid (below_then hB4.out hbW)
  clear hbW hW
  refine (st_num hM5 (i := 1) (j := 0) (Lib.hid (by decide)) hF5 (Lib.hid rfl) (off := a0) (o := o1) ho1 (n := 8) (Lib.hid (by decide)) (Lib.hid (by have := hr1.out; omega)) (.int .u64 0) hx'.out 0 0 (Lib.hid (tagT_no fun _ => rfl))).mono ?_; rintro e w6 ⟨rfl, O6, F6, M6⟩
  change FrameAt w6 fb (wrote _ o1 8 (gB x)) at F6
  have hM6 := Lib.hid M6
  have hF6 := Lib.hid F6
  have hG6 := Lib.hid (hG5.out.only O6 (fun he => hfg.out he.symm))
  have hP6 := hP5.only O6 (fun he => by have := hbl.out; omega)
  have hQ6 := hQ5.only O6 (fun he => by have := hbl.out; omega)
  have hV6 := hV5.only O6 (fun he => by have := hbl.out; omega)
  have hB6 : Hid (Below w1.heap.size w1 w6) := Lib.hid (hB5.out.trans (O6.belowN hB5.out.size (fun k hk he => by have := hfb'.out; omega)))
  clear M6 F6 O6
  have q0 := hQ6.c0
  have q1 := hQ6.c1
  have q2 := hQ6.c2
  have q3 := hQ6.c3
  go_wp2_with fail
  refine (st_num hM6 (i := 1) (j := 0) (Lib.hid (by decide)) hF6 (Lib.hid rfl) (off := a1) (o := o2) ho2 (n := 2) (Lib.hid (by decide)) (Lib.hid (by have := hr1.out; omega)) (.int .u64 0) hy'.out 0 0 (Lib.hid (tagT_no fun s => by rw [wrote_tag]; rfl))).mono ?_; rintro e w7 ⟨rfl, O7, F7, M7⟩
  change FrameAt w7 fb (wrote _ o2 2 (gB y)) at F7
  clear q0 q1 q2 q3
  have hM7 := Lib.hid M7
  have hF7 := Lib.hid F7
  have hG7 := Lib.hid (hG6.out.only O7 (fun he => hfg.out he.symm))
  have hP7 := hP6.only O7 (fun he => by have := hbl.out; omega)
  have hQ7 := hQ6.only O7 (fun he => by have := hbl.out; omega)
  have hV7 := hV6.only O7 (fun he => by have := hbl.out; omega)
  have hB7 : Hid (Below w1.heap.size w1 w7) := Lib.hid (hB6.out.trans (O7.belowN hB6.out.size (fun k hk he => by have := hfb'.out; omega)))
  clear M7 F7 O7
  have p0 := hP7.c0
  have p1 := hP7.c1
  have p2 := hP7.c2
  have p3 := hP7.c3
  go_wp2_with fail
  refine (ld_num hM7 (i := 1) (j := 0) (Lib.hid (by decide)) hF7 (Lib.hid rfl) (off := a0) (o := o1) ho1 (n := 8) (Lib.hid (by decide)) (Lib.hid (by have := hr1.out; omega)) (.int .u64 0) (Lib.hid read_two)).mono ?_; rintro e w8 ⟨rfl, hb8⟩
  clear p0 p1 p2 p3
  obtain ⟨z, hz⟩ : ∃ z, Hid (numB (fun i => (wrote (wrote FS.zero o1 8 (gB x)) o2 2 (gB y)).b (o1 + i)) 8 = z) := ⟨_, Lib.hid rfl⟩
  rw [hz.out]
  have hb8' := Lib.hid hb8
  clear hb8
  have hbd : Hid (-512 ≤ a0 ∧ a0 ≤ -8 ∧ -512 ≤ a1 ∧ a1 ≤ -8) := Lib.hid (by omega)
  have hT1 := Lib.hid (fun s => (wrote_tag FS.zero o1 8 (gB x) s).trans rfl : ∀ s, (wrote FS.zero o1 8 (gB x)).tag s = 0)
  have hbmb : Hid (w1.heap.size < b) := Lib.hid (by have := hfb'.out; have := hbl.out; omega)
  by_cases d1 : a0 + 8 ≤ a1
  · have hzx : Hid (z = x % 2 ^ (8 * 8)) := Lib.hid (by rw [← hz.out]; exact num_two (by have := ho1.out; have := ho2.out; omega))
    have hzx' : z = x := by rw [hzx.out]; exact Nat.mod_eq_of_lt hx'.out
    subst hzx'
    have hbA : Hid (Below w7.heap.size w7 (w8.alloc (.cells #[.int .i64 1, .int .u64 z, .int .i64 0, .int .i64 0] 63))) := Lib.hid (below_then hb8'.out (Below.one _))
    have hM9 := Lib.hid (hM7.out.below hbA.out)
    have hF9 := Lib.hid (hF7.out.below.out _ hbA.out)
    have hG9 := Lib.hid (hG7.out.below.out _ hbA.out)
    have hP9 := hP7.below hbA.out
    have hQ9 := hQ7.below hbA.out
    have hV9 := hV7.below hbA.out
    have hB9 := Lib.hid (below_then hB7.out hbA.out)
    have hZ9 : Box (w8.alloc (.cells #[.int .i64 1, .int .u64 z, .int .i64 0, .int .i64 0] 63)) w8.heap.size (.int .i64 1) (.int .u64 z) (.int .i64 0) (.int .i64 0) := Box.new
    have hw8 : Hid (w7.heap.size ≤ w8.heap.size) := Lib.hid hb8'.out.size
    have v0 := hV9.c0
    have v1 := hV9.c1
    have v2 := hV9.c2
    have v3 := hV9.c3
    have z0 := hZ9.c0
    have z1 := hZ9.c1
    have z2 := hZ9.c2
    have z3 := hZ9.c3
    have q0 := hQ9.c0
    have q1 := hQ9.c1
    have q2 := hQ9.c2
    have q3 := hQ9.c3
    go_wp2_with fail
    refine (ld_num hM9 (i := 1) (j := 0) (Lib.hid (by decide)) hF9 (Lib.hid rfl) (off := a1) (o := o2) ho2 (n := 2) (Lib.hid (by decide)) (Lib.hid (by have := hr1.out; omega)) (.int .u64 0) (Lib.hid (read_self hT1.out (by decide)))).mono ?_; rintro e w10 ⟨rfl, hb10⟩
    rw [num_self]
    clear q0 q1 q2 q3 v0 v1 v2 v3 z0 z1 z2 z3
    obtain ⟨ym, hym⟩ : ∃ ym, Hid (y % 2 ^ (8 * 2) = ym) := ⟨_, Lib.hid rfl⟩
    rw [hym.out]
    have hE2 : (y : Int) % 65536 = (ym : Int) := by rw [← hym.out]; simp
    have hE2' : (y : Int).tmod 65536 = (ym : Int) := by rw [Int.tmod_eq_emod_of_nonneg (by omega)]; exact hE2
    have hbx : Hid (∀ ob, Below (w8.alloc (.cells #[.int .i64 1, .int .u64 z, .int .i64 0, .int .i64 0] 63)).heap.size (w8.alloc (.cells #[.int .i64 1, .int .u64 z, .int .i64 0, .int .i64 0] 63)) (w10.alloc ob)) := Lib.hid fun ob => below_then hb10 (Below.one ob)
    have hMx : Hid (∀ ob, MemRow w1.heap.size (w10.alloc ob) w1.heap.size v4 ([] ++ [(true, fb)] ++ [(true, gb)])) := Lib.hid fun ob => hM9.out.below (hbx.out ob)
    have hGx : Hid (∀ ob, FrameAt (w10.alloc ob) gb FS.zero) := Lib.hid fun ob => hG9.out.below.out _ (hbx.out ob)
    have hBx : Hid (∀ ob, Below w1.heap.size w1 (w10.alloc ob)) := Lib.hid fun ob => below_then hB9.out (hbx.out ob)
    clear hb10
    go_wp2_with fail
    refine (ld_trap (Lib.hid (hMx.out _)) (i := 2) (j := 1) (Lib.hid (by decide)) (Lib.hid (hGx.out _)) (Lib.hid rfl) (off := a0) (o := o1) ho1 (n := 8) (Lib.hid (by decide)) (Lib.hid (by have := hr1.out; omega)) (.int .u64 0) (by simp [FS.zero]) (Lib.hid (read_zero' (by decide))) (by decide)).mono ?_; rintro e w99 ⟨rfl, hb99⟩
    have hX : Hid (Box (w10.alloc (.cells #[.int .i64 1, .int .u64 ym, .int .i64 0, .int .i64 0] 63)) w10.heap.size (.int .i64 1) (.int .u64 ym) (.int .i64 0) (.int .i64 0)) := Lib.hid Box.new
    have hBz : Hid (∀ ob, Below w1.heap.size w1 (w99.alloc ob)) := Lib.hid fun ob => below_then (hBx.out _) (below_then hb99 (Below.one ob))
    have x0 := fun ob => (hX.out.below (below_then hb99 (Below.one ob))).c0
    have x1 := fun ob => (hX.out.below (below_then hb99 (Below.one ob))).c1
    have x2 := fun ob => (hX.out.below (below_then hb99 (Below.one ob))).c2
    have x3 := fun ob => (hX.out.below (below_then hb99 (Below.one ob))).c3
    clear hb99
    go_wp2_with fail
    go_ret
    exact ⟨rfl, below_then hb1'.out (hBz.out _)⟩
  by_cases d2 : a1 + 2 ≤ a0
  · have hzx : Hid (z = x % 2 ^ (8 * 8)) := Lib.hid (by rw [← hz.out]; exact num_two (by have := ho1.out; have := ho2.out; omega))
    have hzx' : z = x := by rw [hzx.out]; exact Nat.mod_eq_of_lt hx'.out
    subst hzx'
    have hbA : Hid (Below w7.heap.size w7 (w8.alloc (.cells #[.int .i64 1, .int .u64 z, .int .i64 0, .int .i64 0] 63))) := Lib.hid (below_then hb8'.out (Below.one _))
    have hM9 := Lib.hid (hM7.out.below hbA.out)
    have hF9 := Lib.hid (hF7.out.below.out _ hbA.out)
    have hG9 := Lib.hid (hG7.out.below.out _ hbA.out)
    have hP9 := hP7.below hbA.out
    have hQ9 := hQ7.below hbA.out
    have hV9 := hV7.below hbA.out
    have hB9 := Lib.hid (below_then hB7.out hbA.out)
    have hZ9 : Box (w8.alloc (.cells #[.int .i64 1, .int .u64 z, .int .i64 0, .int .i64 0] 63)) w8.heap.size (.int .i64 1) (.int .u64 z) (.int .i64 0) (.int .i64 0) := Box.new
    have hw8 : Hid (w7.heap.size ≤ w8.heap.size) := Lib.hid hb8'.out.size
    have v0 := hV9.c0
    have v1 := hV9.c1
    have v2 := hV9.c2
    have v3 := hV9.c3
    have z0 := hZ9.c0
    have z1 := hZ9.c1
    have z2 := hZ9.c2
    have z3 := hZ9.c3
    have q0 := hQ9.c0
    have q1 := hQ9.c1
    have q2 := hQ9.c2
    have q3 := hQ9.c3
    go_wp2_with fail
    refine (ld_num hM9 (i := 1) (j := 0) (Lib.hid (by decide)) hF9 (Lib.hid rfl) (off := a1) (o := o2) ho2 (n := 2) (Lib.hid (by decide)) (Lib.hid (by have := hr1.out; omega)) (.int .u64 0) (Lib.hid (read_self hT1.out (by decide)))).mono ?_; rintro e w10 ⟨rfl, hb10⟩
    rw [num_self]
    clear q0 q1 q2 q3 v0 v1 v2 v3 z0 z1 z2 z3
    obtain ⟨ym, hym⟩ : ∃ ym, Hid (y % 2 ^ (8 * 2) = ym) := ⟨_, Lib.hid rfl⟩
    rw [hym.out]
    have hE2 : (y : Int) % 65536 = (ym : Int) := by rw [← hym.out]; simp
    have hE2' : (y : Int).tmod 65536 = (ym : Int) := by rw [Int.tmod_eq_emod_of_nonneg (by omega)]; exact hE2
    have hbx : Hid (∀ ob, Below (w8.alloc (.cells #[.int .i64 1, .int .u64 z, .int .i64 0, .int .i64 0] 63)).heap.size (w8.alloc (.cells #[.int .i64 1, .int .u64 z, .int .i64 0, .int .i64 0] 63)) (w10.alloc ob)) := Lib.hid fun ob => below_then hb10 (Below.one ob)
    have hMx : Hid (∀ ob, MemRow w1.heap.size (w10.alloc ob) w1.heap.size v4 ([] ++ [(true, fb)] ++ [(true, gb)])) := Lib.hid fun ob => hM9.out.below (hbx.out ob)
    have hGx : Hid (∀ ob, FrameAt (w10.alloc ob) gb FS.zero) := Lib.hid fun ob => hG9.out.below.out _ (hbx.out ob)
    have hBx : Hid (∀ ob, Below w1.heap.size w1 (w10.alloc ob)) := Lib.hid fun ob => below_then hB9.out (hbx.out ob)
    clear hb10
    go_wp2_with fail
    refine (ld_trap (Lib.hid (hMx.out _)) (i := 2) (j := 1) (Lib.hid (by decide)) (Lib.hid (hGx.out _)) (Lib.hid rfl) (off := a0) (o := o1) ho1 (n := 8) (Lib.hid (by decide)) (Lib.hid (by have := hr1.out; omega)) (.int .u64 0) (by simp [FS.zero]) (Lib.hid (read_zero' (by decide))) (by decide)).mono ?_; rintro e w99 ⟨rfl, hb99⟩
    have hX : Hid (Box (w10.alloc (.cells #[.int .i64 1, .int .u64 ym, .int .i64 0, .int .i64 0] 63)) w10.heap.size (.int .i64 1) (.int .u64 ym) (.int .i64 0) (.int .i64 0)) := Lib.hid Box.new
    have hBz : Hid (∀ ob, Below w1.heap.size w1 (w99.alloc ob)) := Lib.hid fun ob => below_then (hBx.out _) (below_then hb99 (Below.one ob))
    have x0 := fun ob => (hX.out.below (below_then hb99 (Below.one ob))).c0
    have x1 := fun ob => (hX.out.below (below_then hb99 (Below.one ob))).c1
    have x2 := fun ob => (hX.out.below (below_then hb99 (Below.one ob))).c2
    have x3 := fun ob => (hX.out.below (below_then hb99 (Below.one ob))).c3
    clear hb99
    go_wp2_with fail
    go_ret
    exact ⟨rfl, below_then hb1'.out (hBz.out _)⟩
  have hbA : Hid (Below w7.heap.size w7 (w8.alloc (.cells #[.int .i64 1, .int .u64 z, .int .i64 0, .int .i64 0] 63))) := Lib.hid (below_then hb8'.out (Below.one _))
  have hM9 := Lib.hid (hM7.out.below hbA.out)
  have hF9 := Lib.hid (hF7.out.below.out _ hbA.out)
  have hG9 := Lib.hid (hG7.out.below.out _ hbA.out)
  have hP9 := hP7.below hbA.out
  have hQ9 := hQ7.below hbA.out
  have hV9 := hV7.below hbA.out
  have hB9 := Lib.hid (below_then hB7.out hbA.out)
  have hZ9 : Box (w8.alloc (.cells #[.int .i64 1, .int .u64 z, .int .i64 0, .int .i64 0] 63)) w8.heap.size (.int .i64 1) (.int .u64 z) (.int .i64 0) (.int .i64 0) := Box.new
  have hw8 : Hid (w7.heap.size ≤ w8.heap.size) := Lib.hid hb8'.out.size
  have q0 := hQ9.c0
  have q1 := hQ9.c1
  have q2 := hQ9.c2
  have q3 := hQ9.c3
  go_wp2_with fail
  refine (ld_num hM9 (i := 1) (j := 0) (Lib.hid (by decide)) hF9 (Lib.hid rfl) (off := a1) (o := o2) ho2 (n := 2) (Lib.hid (by decide)) (Lib.hid (by have := hr1.out; omega)) (.int .u64 0) (Lib.hid (read_self hT1.out (by decide)))).mono ?_; rintro e w10 ⟨rfl, hb10⟩
  rw [num_self]
  clear q0 q1 q2 q3
  obtain ⟨ym, hym⟩ : ∃ ym, Hid (y % 2 ^ (8 * 2) = ym) := ⟨_, Lib.hid rfl⟩
  rw [hym.out]
  have hE2 : (y : Int) % 65536 = (ym : Int) := by rw [← hym.out]; simp
  have hE2' : (y : Int).tmod 65536 = (ym : Int) := by rw [Int.tmod_eq_emod_of_nonneg (by omega)]; exact hE2
  have hbx : Hid (∀ ob, Below (w8.alloc (.cells #[.int .i64 1, .int .u64 z, .int .i64 0, .int .i64 0] 63)).heap.size (w8.alloc (.cells #[.int .i64 1, .int .u64 z, .int .i64 0, .int .i64 0] 63)) (w10.alloc ob)) := Lib.hid fun ob => below_then hb10 (Below.one ob)
  have hMx : Hid (∀ ob, MemRow w1.heap.size (w10.alloc ob) w1.heap.size v4 ([] ++ [(true, fb)] ++ [(true, gb)])) := Lib.hid fun ob => hM9.out.below (hbx.out ob)
  have hGx : Hid (∀ ob, FrameAt (w10.alloc ob) gb FS.zero) := Lib.hid fun ob => hG9.out.below.out _ (hbx.out ob)
  have hBx : Hid (∀ ob, Below w1.heap.size w1 (w10.alloc ob)) := Lib.hid fun ob => below_then hB9.out (hbx.out ob)
  clear hb10
  go_wp2_with fail
  refine (ld_trap (Lib.hid (hMx.out _)) (i := 2) (j := 1) (Lib.hid (by decide)) (Lib.hid (hGx.out _)) (Lib.hid rfl) (off := a0) (o := o1) ho1 (n := 8) (Lib.hid (by decide)) (Lib.hid (by have := hr1.out; omega)) (.int .u64 0) (by simp [FS.zero]) (Lib.hid (read_zero' (by decide))) (by decide)).mono ?_; rintro e w99 ⟨rfl, hb99⟩
  have hX : Hid (Box (w10.alloc (.cells #[.int .i64 1, .int .u64 ym, .int .i64 0, .int .i64 0] 63)) w10.heap.size (.int .i64 1) (.int .u64 ym) (.int .i64 0) (.int .i64 0)) := Lib.hid Box.new
  have hBz : Hid (∀ ob, Below w1.heap.size w1 (w99.alloc ob)) := Lib.hid fun ob => below_then (hBx.out _) (below_then hb99 (Below.one ob))
  have x0 := fun ob => (hX.out.below (below_then hb99 (Below.one ob))).c0
  have x1 := fun ob => (hX.out.below (below_then hb99 (Below.one ob))).c1
  have x2 := fun ob => (hX.out.below (below_then hb99 (Below.one ob))).c2
  have x3 := fun ob => (hX.out.below (below_then hb99 (Below.one ob))).c3
  clear hb99
  go_wp2_with fail
  go_ret
  exact ⟨rfl, below_then hb1'.out (hBz.out _)⟩
end Go.Proofs.Ytmjeloinibembaa
