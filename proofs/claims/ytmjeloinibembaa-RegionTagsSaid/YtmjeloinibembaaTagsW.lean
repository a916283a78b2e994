/-
  RegionTags: the walk of the law.
-/
import Derived.Test.YtmjeloinibembaaTagB
namespace Go.Proofs.Ytmjeloinibembaa
open Go.RowKit
set_option linter.unusedVariables false
set_option linter.unusedSimpArgs false
set_option maxRecDepth 100000 in
set_option maxHeartbeats 8000000 in
theorem tags_4 (a0 a1 a3 : Int) (w : World) :
    Calls Try.prog 11 #[.int .i64 a0, .int .i64 a1, .int .i64 4, .int .i64 a3] w fun e w' => e = .returned (.bool true) ∧ Below w.heap.size w w' := by
  go_enter Try.func11, Try.ntmps11
  go_wp2_with fail
  refine (f39_ok w).mono ?_; rintro e w1 ⟨rfl, hb1⟩
  have hb1' := Lib.hid hb1
  by_cases h30 : a3 = 0
  · have b3 : (a3 == 0) = true := by simp [h30]
    clear h30
    go_wp2_with fail
    all_goals (go_ret; exact ⟨rfl, hb1⟩)
  have b3 : (a3 == 0) = false := by simpa using h30
  have h30' := Lib.hid h30
  clear h30
  go_wp2_with fail
  all_goals try (go_ret; exact ⟨rfl, hb1⟩)
  clear hb1
  obtain ⟨s, hs⟩ : ∃ s : Nat, Hid (a0 = (s : Int) - 64) := ⟨(a0 + 64).toNat, Lib.hid (by omega)⟩
  obtain ⟨o, ho⟩ : ∃ o : Nat, Hid (a1 = (o : Int) - 512) := ⟨(a1 + 512).toNat, Lib.hid (by omega)⟩
  have hr : Hid (s ≤ 62 ∧ o ≤ 504) := Lib.hid (by have := hs.out; have := ho.out; omega)
  obtain ⟨p, hp⟩ : ∃ p : Int, Hid (8 * a0 = p) := ⟨_, Lib.hid rfl⟩
  have hpp : Hid (p = (8 * s : Nat) - 512) := Lib.hid (by have := hp.out; have := hs.out; omega)
  have ep : wrap64 (8 * a0) = p := by have := hp.out; have := hs.out; have := hr.out; unfold wrap64; omega
  have hpb : Hid (-512 ≤ p ∧ p ≤ -16) := Lib.hid (by have := hpp.out; have := hr.out; omega)
  have hs2 : Hid (s + 2 ≤ 64) := Lib.hid (by have := hr.out; omega)
  refine (f14_ok w1).mono ?_; rintro e w2 ⟨rfl, hw2⟩
  have hM2 : Hid (MemRow w1.heap.size w2 w1.heap.size (.slice none 0 0) []) := Lib.hid (hw2 ▸ MemRow.new w1)
  have hb2 : Hid (Below w1.heap.size w1 w2) := Lib.hid (hw2 ▸ Below.one _)
  clear hw2
  go_wp2_with fail
  refine (f40_ok w1.heap.size w2 hM2 (Lib.hid (by decide)) (Lib.hid hb2.out.size)).mono ?_; rintro e w4 ⟨fb, v4, rfl, M4, F4, hfb, O4⟩
  have hB4 : Hid (Below w1.heap.size w1 w4) := Lib.hid (hb2.out.trans (O4.belowN hb2.out.size (fun k hk he => by
    rcases he with rfl | he
    · omega
    · simp [Value.ownBlock] at he)))
  have hM4 := Lib.hid M4
  have hF4 := Lib.hid F4
  have hfb' : Hid (w1.heap.size ≤ fb) := Lib.hid (by have := hb2.out.size; omega)
  clear M4 F4 O4 hfb
  have hpw : Hid (8 * a0 = p) := hp
  go_wp2_with fail
  rw [hp.out]
  obtain ⟨W, hW, hP5, hQ5, hbW⟩ := boxes (w := w4) (v0 := .int .i64 2) (v1 := .int .u64 0) (v2 := .int .i64 1) (v3 := .int .i64 p) (u0 := .int .i64 2) (u1 := .int .u64 0) (u2 := .int .i64 1) (u3 := .int .i64 a1)
  rw [← hW.out]
  obtain ⟨b, hb⟩ : ∃ b, Hid (w4.heap.size = b) := ⟨_, Lib.hid rfl⟩
  rw [hb.out] at hP5 hQ5 ⊢
  have hbl : Hid (fb < b) := Lib.hid (by have := hF4.out.kind.lt; have := hb.out; omega)
  have hM5 := Lib.hid (hM4.out.below hbW)
  have hF5 := Lib.hid (hF4.out.below.out W hbW)
  have hB5 : Hid (Below w1.heap.size w1 W) := Lib.hid (below_then hB4.out hbW)
  clear hbW hW
  have hij : Hid ((1 : Int) = ((0 : Nat) : Int) + 1) := Lib.hid (by decide)
  have hx : Hid (([] ++ [(true, fb)] : List (Bool × Nat))[0]? = some (true, fb)) := Lib.hid rfl
  have e17 : wrap64 (a1 + 4) = a1 + 4 := by have := ho.out; have := hr.out; unfold wrap64; omega
  refine (f46_ok hM5 hij hF5 hx hpp hs2 0 a3 b3 (Lib.hid (tag2_no rfl rfl))).mono ?_; rintro e w6 ⟨rfl, O6, F6, M6⟩
  have hM6 := Lib.hid M6
  have hF6 := Lib.hid F6
  have hP6 := hP5.only O6 (fun he => by have := hbl.out; omega)
  have hQ6 := hQ5.only O6 (fun he => by have := hbl.out; omega)
  have hB6 : Hid (Below w1.heap.size w1 w6) := Lib.hid (hB5.out.trans (O6.belowN hB5.out.size (fun k hk he => by have := hfb'.out; omega)))
  clear M6 F6 O6 hP5 hQ5
  have p0 := hP6.c0
  have p1 := hP6.c1
  have p2 := hP6.c2
  have p3 := hP6.c3
  go_wp2_with fail
  refine (f46_trap hM6 hij hF6 hx hpp hs2 0 a3 b3 (Lib.hid (tag2_yes (by rw [marked_tag, if_pos (.inl rfl)]; exact h30'.out)))).mono ?_; rintro e w7 ⟨rfl, hb7⟩
  have hM7 := Lib.hid (hM6.out.below hb7)
  have hF7 := Lib.hid (hF6.out.below.out _ hb7)
  have hP7 := hP6.below hb7
  have hQ7 := hQ6.below hb7
  have hB7 := Lib.hid (below_then hB6.out hb7)
  clear hb7 p0 p1 p2 p3
  have p0 := hP7.c0
  have p1 := hP7.c1
  have p2 := hP7.c2
  have p3 := hP7.c3
  go_wp2_with fail
  refine (f47_ok hM7 hij hF7 hx hpp hs2 0 (Lib.hid (marked_beg _ _ _))).mono ?_; rintro e w8 ⟨rfl, hb8⟩
  simp only [if_true]
  rw [marked_tag, if_pos (.inl rfl)]
  have hM8 := Lib.hid (hM7.out.below hb8)
  have hF8 := Lib.hid (hF7.out.below.out _ hb8)
  have hP8 := hP7.below hb8
  have hQ8 := hQ7.below hb8
  have hB8 := Lib.hid (below_then hB7.out hb8)
  clear hb8 p0 p1 p2 p3
  have q0 := hQ8.c0
  have q1 := hQ8.c1
  have q2 := hQ8.c2
  have q3 := hQ8.c3
  by_cases m1 : a1 < 8 * a0 + 16
  · by_cases m2 : 8 * a0 < a1 + 4
    · go_wp2_with fail
      refine (st_tag hM8 hij hF8 hx (off := a1) (o := o) ho (n := 4) (Lib.hid (by decide)) (Lib.hid (by have := hr.out; omega)) (.int .u64 0) 1 1 0 0 (by decide) (Lib.hid (meets_yes h30'.out (by decide) (by have := ho.out; have := hpp.out; have := hp.out; omega) (by have := ho.out; have := hpp.out; have := hp.out; omega)))).mono ?_; rintro e w9 ⟨rfl, O9, F9, M9⟩
      have hwr : Hid ((marked FS.zero s a3).wr (8 * s) = false) := Lib.hid (marked_wr _ _ _)
      have hbg : Hid ((marked FS.zero s a3).beg s = true) := Lib.hid (marked_beg _ _ _)
      have hM9 := Lib.hid M9
      have hF9 := Lib.hid F9
      have hP9 := hP8.only O9 (fun he => by have := hbl.out; omega)
      have hB9 : Hid (Below w1.heap.size w1 w9) := Lib.hid (hB8.out.trans (O9.belowN hB8.out.size (fun k hk he => by have := hfb'.out; omega)))
      clear M9 F9 O9 q0 q1 q2 q3
      have p0 := hP9.c0
      have p1 := hP9.c1
      have p2 := hP9.c2
      have p3 := hP9.c3
      go_wp2_with fail
      refine (f48_ok hM9 hij hF9 hx hpp hs2 0 hbg).mono ?_; rintro e w10 ⟨rfl, O10, F10, M10⟩
      have hM10 := Lib.hid M10
      have hF10 := Lib.hid F10
      have hP10 := hP9.only O10 (fun he => by have := hbl.out; omega)
      have hB10 : Hid (Below w1.heap.size w1 w10) := Lib.hid (hB9.out.trans (O10.belowN hB9.out.size (fun k hk he => by have := hfb'.out; omega)))
      clear M10 F10 O10 p0 p1 p2 p3
      have p0 := hP10.c0
      have p1 := hP10.c1
      have p2 := hP10.c2
      have p3 := hP10.c3
      go_wp2_with fail
      refine (f48_trap hM10 hij hF10 hx hpp hs2 0 (Lib.hid (cleared_beg _ _))).mono ?_; rintro e w11 ⟨rfl, hb11⟩
      have hM11 := Lib.hid (hM10.out.below hb11)
      have hF11 := Lib.hid (hF10.out.below.out _ hb11)
      have hP11 := hP10.below hb11
      have hB11 := Lib.hid (below_then hB10.out hb11)
      clear hb11 p0 p1 p2 p3
      have p0 := hP11.c0
      have p1 := hP11.c1
      have p2 := hP11.c2
      have p3 := hP11.c3
      go_wp2_with fail
      refine (ld_trap hM11 hij hF11 hx (off := p) (o := 8 * s) hpp (n := 8) (Lib.hid (by decide)) (Lib.hid (by have := hs2.out; omega)) (.int .u64 0) (fun h => by have h2 := h.2.2.2; rw [show 8 * s / 8 = s by omega, cleared_has] at h2; exact absurd h2 (by decide)) (Lib.hid (cleared_read hwr.out)) (by decide)).mono ?_; rintro e w12 ⟨rfl, hb12⟩
      have hM12 := Lib.hid (hM11.out.below hb12)
      have hF12 := Lib.hid (hF11.out.below.out _ hb12)
      have hP12 := hP11.below hb12
      have hB12 := Lib.hid (below_then hB11.out hb12)
      clear hb12 p0 p1 p2 p3
      have p0 := hP12.c0
      have p1 := hP12.c1
      have p2 := hP12.c2
      have p3 := hP12.c3
      go_wp2_with fail
      refine (f46_ok hM12 hij hF12 hx hpp hs2 0 a3 b3 (Lib.hid (tag2_no (by rw [cleared_tag, if_pos (.inl rfl)]) (by rw [cleared_tag, if_pos (.inr rfl)])))).mono ?_; rintro e w13 ⟨rfl, O13, F13, M13⟩
      have hB13 : Hid (Below w1.heap.size w1 w13) := Lib.hid (hB12.out.trans (O13.belowN hB12.out.size (fun k hk he => by have := hfb'.out; omega)))
      clear F13 M13 O13
      go_wp2_with fail
      go_ret
      exact ⟨rfl, below_then hb1'.out hB13.out⟩
    · go_wp2_with fail
      refine (st_num hM8 hij hF8 hx (off := a1) (o := o) ho (n := 4) (Lib.hid (by decide)) (Lib.hid (by have := hr.out; omega)) (.int .u64 0) (x := 1) (by decide) 0 0 (Lib.hid (meets_no (by decide) (by have := ho.out; have := hpp.out; have := hp.out; omega)))).mono ?_; rintro e w9 ⟨rfl, O9, F9, M9⟩
      have hwr : Hid ((wrote (marked FS.zero s a3) o 4 (fun i => 1 / 2 ^ (8 * i) % 256)).wr (8 * s) = false) := Lib.hid (wrote_wr' (by have := ho.out; have := hpp.out; have := hp.out; omega) (marked_wr _ _ _))
      have hbg : Hid ((wrote (marked FS.zero s a3) o 4 (fun i => 1 / 2 ^ (8 * i) % 256)).beg s = true) := Lib.hid (by rw [wrote_beg']; exact marked_beg _ _ _)
      have hM9 := Lib.hid M9
      have hF9 := Lib.hid F9
      have hP9 := hP8.only O9 (fun he => by have := hbl.out; omega)
      have hB9 : Hid (Below w1.heap.size w1 w9) := Lib.hid (hB8.out.trans (O9.belowN hB8.out.size (fun k hk he => by have := hfb'.out; omega)))
      clear M9 F9 O9 q0 q1 q2 q3
      have p0 := hP9.c0
      have p1 := hP9.c1
      have p2 := hP9.c2
      have p3 := hP9.c3
      go_wp2_with fail
      refine (f48_ok hM9 hij hF9 hx hpp hs2 0 hbg).mono ?_; rintro e w10 ⟨rfl, O10, F10, M10⟩
      have hM10 := Lib.hid M10
      have hF10 := Lib.hid F10
      have hP10 := hP9.only O10 (fun he => by have := hbl.out; omega)
      have hB10 : Hid (Below w1.heap.size w1 w10) := Lib.hid (hB9.out.trans (O10.belowN hB9.out.size (fun k hk he => by have := hfb'.out; omega)))
      clear M10 F10 O10 p0 p1 p2 p3
      have p0 := hP10.c0
      have p1 := hP10.c1
      have p2 := hP10.c2
      have p3 := hP10.c3
      go_wp2_with fail
      refine (f48_trap hM10 hij hF10 hx hpp hs2 0 (Lib.hid (cleared_beg _ _))).mono ?_; rintro e w11 ⟨rfl, hb11⟩
      have hM11 := Lib.hid (hM10.out.below hb11)
      have hF11 := Lib.hid (hF10.out.below.out _ hb11)
      have hP11 := hP10.below hb11
      have hB11 := Lib.hid (below_then hB10.out hb11)
      clear hb11 p0 p1 p2 p3
      have p0 := hP11.c0
      have p1 := hP11.c1
      have p2 := hP11.c2
      have p3 := hP11.c3
      go_wp2_with fail
      refine (ld_trap hM11 hij hF11 hx (off := p) (o := 8 * s) hpp (n := 8) (Lib.hid (by decide)) (Lib.hid (by have := hs2.out; omega)) (.int .u64 0) (fun h => by have h2 := h.2.2.2; rw [show 8 * s / 8 = s by omega, cleared_has] at h2; exact absurd h2 (by decide)) (Lib.hid (cleared_read hwr.out)) (by decide)).mono ?_; rintro e w12 ⟨rfl, hb12⟩
      have hM12 := Lib.hid (hM11.out.below hb12)
      have hF12 := Lib.hid (hF11.out.below.out _ hb12)
      have hP12 := hP11.below hb12
      have hB12 := Lib.hid (below_then hB11.out hb12)
      clear hb12 p0 p1 p2 p3
      have p0 := hP12.c0
      have p1 := hP12.c1
      have p2 := hP12.c2
      have p3 := hP12.c3
      go_wp2_with fail
      refine (f46_ok hM12 hij hF12 hx hpp hs2 0 a3 b3 (Lib.hid (tag2_no (by rw [cleared_tag, if_pos (.inl rfl)]) (by rw [cleared_tag, if_pos (.inr rfl)])))).mono ?_; rintro e w13 ⟨rfl, O13, F13, M13⟩
      have hB13 : Hid (Below w1.heap.size w1 w13) := Lib.hid (hB12.out.trans (O13.belowN hB12.out.size (fun k hk he => by have := hfb'.out; omega)))
      clear F13 M13 O13
      go_wp2_with fail
      go_ret
      exact ⟨rfl, below_then hb1'.out hB13.out⟩
  · go_wp2_with fail
    refine (st_num hM8 hij hF8 hx (off := a1) (o := o) ho (n := 4) (Lib.hid (by decide)) (Lib.hid (by have := hr.out; omega)) (.int .u64 0) (x := 1) (by decide) 0 0 (Lib.hid (meets_no (by decide) (by have := ho.out; have := hpp.out; have := hp.out; omega)))).mono ?_; rintro e w9 ⟨rfl, O9, F9, M9⟩
    have hwr : Hid ((wrote (marked FS.zero s a3) o 4 (fun i => 1 / 2 ^ (8 * i) % 256)).wr (8 * s) = false) := Lib.hid (wrote_wr' (by have := ho.out; have := hpp.out; have := hp.out; omega) (marked_wr _ _ _))
    have hbg : Hid ((wrote (marked FS.zero s a3) o 4 (fun i => 1 / 2 ^ (8 * i) % 256)).beg s = true) := Lib.hid (by rw [wrote_beg']; exact marked_beg _ _ _)
    have hM9 := Lib.hid M9
    have hF9 := Lib.hid F9
    have hP9 := hP8.only O9 (fun he => by have := hbl.out; omega)
    have hB9 : Hid (Below w1.heap.size w1 w9) := Lib.hid (hB8.out.trans (O9.belowN hB8.out.size (fun k hk he => by have := hfb'.out; omega)))
    clear M9 F9 O9 q0 q1 q2 q3
    have p0 := hP9.c0
    have p1 := hP9.c1
    have p2 := hP9.c2
    have p3 := hP9.c3
    go_wp2_with fail
    refine (f48_ok hM9 hij hF9 hx hpp hs2 0 hbg).mono ?_; rintro e w10 ⟨rfl, O10, F10, M10⟩
    have hM10 := Lib.hid M10
    have hF10 := Lib.hid F10
    have hP10 := hP9.only O10 (fun he => by have := hbl.out; omega)
    have hB10 : Hid (Below w1.heap.size w1 w10) := Lib.hid (hB9.out.trans (O10.belowN hB9.out.size (fun k hk he => by have := hfb'.out; omega)))
    clear M10 F10 O10 p0 p1 p2 p3
    have p0 := hP10.c0
    have p1 := hP10.c1
    have p2 := hP10.c2
    have p3 := hP10.c3
    go_wp2_with fail
    refine (f48_trap hM10 hij hF10 hx hpp hs2 0 (Lib.hid (cleared_beg _ _))).mono ?_; rintro e w11 ⟨rfl, hb11⟩
    have hM11 := Lib.hid (hM10.out.below hb11)
    have hF11 := Lib.hid (hF10.out.below.out _ hb11)
    have hP11 := hP10.below hb11
    have hB11 := Lib.hid (below_then hB10.out hb11)
    clear hb11 p0 p1 p2 p3
    have p0 := hP11.c0
    have p1 := hP11.c1
    have p2 := hP11.c2
    have p3 := hP11.c3
    go_wp2_with fail
    refine (ld_trap hM11 hij hF11 hx (off := p) (o := 8 * s) hpp (n := 8) (Lib.hid (by decide)) (Lib.hid (by have := hs2.out; omega)) (.int .u64 0) (fun h => by have h2 := h.2.2.2; rw [show 8 * s / 8 = s by omega, cleared_has] at h2; exact absurd h2 (by decide)) (Lib.hid (cleared_read hwr.out)) (by decide)).mono ?_; rintro e w12 ⟨rfl, hb12⟩
    have hM12 := Lib.hid (hM11.out.below hb12)
    have hF12 := Lib.hid (hF11.out.below.out _ hb12)
    have hP12 := hP11.below hb12
    have hB12 := Lib.hid (below_then hB11.out hb12)
    clear hb12 p0 p1 p2 p3
    have p0 := hP12.c0
    have p1 := hP12.c1
    have p2 := hP12.c2
    have p3 := hP12.c3
    go_wp2_with fail
    refine (f46_ok hM12 hij hF12 hx hpp hs2 0 a3 b3 (Lib.hid (tag2_no (by rw [cleared_tag, if_pos (.inl rfl)]) (by rw [cleared_tag, if_pos (.inr rfl)])))).mono ?_; rintro e w13 ⟨rfl, O13, F13, M13⟩
    have hB13 : Hid (Below w1.heap.size w1 w13) := Lib.hid (hB12.out.trans (O13.belowN hB12.out.size (fun k hk he => by have := hfb'.out; omega)))
    clear F13 M13 O13
    go_wp2_with fail
    go_ret
    exact ⟨rfl, below_then hb1'.out hB13.out⟩
set_option maxRecDepth 100000 in
set_option maxHeartbeats 8000000 in
theorem tags_8 (a0 a1 a3 : Int) (w : World) :
    Calls Try.prog 11 #[.int .i64 a0, .int .i64 a1, .int .i64 8, .int .i64 a3] w fun e w' => e = .returned (.bool true) ∧ Below w.heap.size w w' := by
  go_enter Try.func11, Try.ntmps11
  go_wp2_with fail
  refine (f39_ok w).mono ?_; rintro e w1 ⟨rfl, hb1⟩
  have hb1' := Lib.hid hb1
  by_cases h30 : a3 = 0
  · have b3 : (a3 == 0) = true := by simp [h30]
    clear h30
    go_wp2_with fail
    all_goals (go_ret; exact ⟨rfl, hb1⟩)
  have b3 : (a3 == 0) = false := by simpa using h30
  have h30' := Lib.hid h30
  clear h30
  go_wp2_with fail
  all_goals try (go_ret; exact ⟨rfl, hb1⟩)
  clear hb1
  obtain ⟨s, hs⟩ : ∃ s : Nat, Hid (a0 = (s : Int) - 64) := ⟨(a0 + 64).toNat, Lib.hid (by omega)⟩
  obtain ⟨o, ho⟩ : ∃ o : Nat, Hid (a1 = (o : Int) - 512) := ⟨(a1 + 512).toNat, Lib.hid (by omega)⟩
  have hr : Hid (s ≤ 62 ∧ o ≤ 504) := Lib.hid (by have := hs.out; have := ho.out; omega)
  obtain ⟨p, hp⟩ : ∃ p : Int, Hid (8 * a0 = p) := ⟨_, Lib.hid rfl⟩
  have hpp : Hid (p = (8 * s : Nat) - 512) := Lib.hid (by have := hp.out; have := hs.out; omega)
  have ep : wrap64 (8 * a0) = p := by have := hp.out; have := hs.out; have := hr.out; unfold wrap64; omega
  have hpb : Hid (-512 ≤ p ∧ p ≤ -16) := Lib.hid (by have := hpp.out; have := hr.out; omega)
  have hs2 : Hid (s + 2 ≤ 64) := Lib.hid (by have := hr.out; omega)
  refine (f14_ok w1).mono ?_; rintro e w2 ⟨rfl, hw2⟩
  have hM2 : Hid (MemRow w1.heap.size w2 w1.heap.size (.slice none 0 0) []) := Lib.hid (hw2 ▸ MemRow.new w1)
  have hb2 : Hid (Below w1.heap.size w1 w2) := Lib.hid (hw2 ▸ Below.one _)
  clear hw2
  go_wp2_with fail
  refine (f40_ok w1.heap.size w2 hM2 (Lib.hid (by decide)) (Lib.hid hb2.out.size)).mono ?_; rintro e w4 ⟨fb, v4, rfl, M4, F4, hfb, O4⟩
  have hB4 : Hid (Below w1.heap.size w1 w4) := Lib.hid (hb2.out.trans (O4.belowN hb2.out.size (fun k hk he => by
    rcases he with rfl | he
    · omega
    · simp [Value.ownBlock] at he)))
  have hM4 := Lib.hid M4
  have hF4 := Lib.hid F4
  have hfb' : Hid (w1.heap.size ≤ fb) := Lib.hid (by have := hb2.out.size; omega)
  clear M4 F4 O4 hfb
  have hpw : Hid (8 * a0 = p) := hp
  go_wp2_with fail
  rw [hp.out]
  obtain ⟨W, hW, hP5, hQ5, hbW⟩ := boxes (w := w4) (v0 := .int .i64 2) (v1 := .int .u64 0) (v2 := .int .i64 1) (v3 := .int .i64 p) (u0 := .int .i64 2) (u1 := .int .u64 0) (u2 := .int .i64 1) (u3 := .int .i64 a1)
  rw [← hW.out]
  obtain ⟨b, hb⟩ : ∃ b, Hid (w4.heap.size = b) := ⟨_, Lib.hid rfl⟩
  rw [hb.out] at hP5 hQ5 ⊢
  have hbl : Hid (fb < b) := Lib.hid (by have := hF4.out.kind.lt; have := hb.out; omega)
  have hM5 := Lib.hid (hM4.out.below hbW)
  have hF5 := Lib.hid (hF4.out.below.out W hbW)
  have hB5 : Hid (Below w1.heap.size w1 W) := Lib.hid (below_then hB4.out hbW)
  clear hbW hW
  have hij : Hid ((1 : Int) = ((0 : Nat) : Int) + 1) := Lib.hid (by decide)
  have hx : Hid (([] ++ [(true, fb)] : List (Bool × Nat))[0]? = some (true, fb)) := Lib.hid rfl
  have e17 : wrap64 (a1 + 8) = a1 + 8 := by have := ho.out; have := hr.out; unfold wrap64; omega
  refine (f46_ok hM5 hij hF5 hx hpp hs2 0 a3 b3 (Lib.hid (tag2_no rfl rfl))).mono ?_; rintro e w6 ⟨rfl, O6, F6, M6⟩
  have hM6 := Lib.hid M6
  have hF6 := Lib.hid F6
  have hP6 := hP5.only O6 (fun he => by have := hbl.out; omega)
  have hQ6 := hQ5.only O6 (fun he => by have := hbl.out; omega)
  have hB6 : Hid (Below w1.heap.size w1 w6) := Lib.hid (hB5.out.trans (O6.belowN hB5.out.size (fun k hk he => by have := hfb'.out; omega)))
  clear M6 F6 O6 hP5 hQ5
  have p0 := hP6.c0
  have p1 := hP6.c1
  have p2 := hP6.c2
  have p3 := hP6.c3
  go_wp2_with fail
  refine (f46_trap hM6 hij hF6 hx hpp hs2 0 a3 b3 (Lib.hid (tag2_yes (by rw [marked_tag, if_pos (.inl rfl)]; exact h30'.out)))).mono ?_; rintro e w7 ⟨rfl, hb7⟩
  have hM7 := Lib.hid (hM6.out.below hb7)
  have hF7 := Lib.hid (hF6.out.below.out _ hb7)
  have hP7 := hP6.below hb7
  have hQ7 := hQ6.below hb7
  have hB7 := Lib.hid (below_then hB6.out hb7)
  clear hb7 p0 p1 p2 p3
  have p0 := hP7.c0
  have p1 := hP7.c1
  have p2 := hP7.c2
  have p3 := hP7.c3
  go_wp2_with fail
  refine (f47_ok hM7 hij hF7 hx hpp hs2 0 (Lib.hid (marked_beg _ _ _))).mono ?_; rintro e w8 ⟨rfl, hb8⟩
  simp only [if_true]
  rw [marked_tag, if_pos (.inl rfl)]
  have hM8 := Lib.hid (hM7.out.below hb8)
  have hF8 := Lib.hid (hF7.out.below.out _ hb8)
  have hP8 := hP7.below hb8
  have hQ8 := hQ7.below hb8
  have hB8 := Lib.hid (below_then hB7.out hb8)
  clear hb8 p0 p1 p2 p3
  have q0 := hQ8.c0
  have q1 := hQ8.c1
  have q2 := hQ8.c2
  have q3 := hQ8.c3
  by_cases m1 : a1 < 8 * a0 + 16
  · by_cases m2 : 8 * a0 < a1 + 8
    · go_wp2_with fail
      refine (st_tag hM8 hij hF8 hx (off := a1) (o := o) ho (n := 8) (Lib.hid (by decide)) (Lib.hid (by have := hr.out; omega)) (.int .u64 0) 1 1 0 0 (by decide) (Lib.hid (meets_yes h30'.out (by decide) (by have := ho.out; have := hpp.out; have := hp.out; omega) (by have := ho.out; have := hpp.out; have := hp.out; omega)))).mono ?_; rintro e w9 ⟨rfl, O9, F9, M9⟩
      have hwr : Hid ((marked FS.zero s a3).wr (8 * s) = false) := Lib.hid (marked_wr _ _ _)
      have hbg : Hid ((marked FS.zero s a3).beg s = true) := Lib.hid (marked_beg _ _ _)
      have hM9 := Lib.hid M9
      have hF9 := Lib.hid F9
      have hP9 := hP8.only O9 (fun he => by have := hbl.out; omega)
      have hB9 : Hid (Below w1.heap.size w1 w9) := Lib.hid (hB8.out.trans (O9.belowN hB8.out.size (fun k hk he => by have := hfb'.out; omega)))
      clear M9 F9 O9 q0 q1 q2 q3
      have p0 := hP9.c0
      have p1 := hP9.c1
      have p2 := hP9.c2
      have p3 := hP9.c3
      go_wp2_with fail
      refine (f48_ok hM9 hij hF9 hx hpp hs2 0 hbg).mono ?_; rintro e w10 ⟨rfl, O10, F10, M10⟩
      have hM10 := Lib.hid M10
      have hF10 := Lib.hid F10
      have hP10 := hP9.only O10 (fun he => by have := hbl.out; omega)
      have hB10 : Hid (Below w1.heap.size w1 w10) := Lib.hid (hB9.out.trans (O10.belowN hB9.out.size (fun k hk he => by have := hfb'.out; omega)))
      clear M10 F10 O10 p0 p1 p2 p3
      have p0 := hP10.c0
      have p1 := hP10.c1
      have p2 := hP10.c2
      have p3 := hP10.c3
      go_wp2_with fail
      refine (f48_trap hM10 hij hF10 hx hpp hs2 0 (Lib.hid (cleared_beg _ _))).mono ?_; rintro e w11 ⟨rfl, hb11⟩
      have hM11 := Lib.hid (hM10.out.below hb11)
      have hF11 := Lib.hid (hF10.out.below.out _ hb11)
      have hP11 := hP10.below hb11
      have hB11 := Lib.hid (below_then hB10.out hb11)
      clear hb11 p0 p1 p2 p3
      have p0 := hP11.c0
      have p1 := hP11.c1
      have p2 := hP11.c2
      have p3 := hP11.c3
      go_wp2_with fail
      refine (ld_trap hM11 hij hF11 hx (off := p) (o := 8 * s) hpp (n := 8) (Lib.hid (by decide)) (Lib.hid (by have := hs2.out; omega)) (.int .u64 0) (fun h => by have h2 := h.2.2.2; rw [show 8 * s / 8 = s by omega, cleared_has] at h2; exact absurd h2 (by decide)) (Lib.hid (cleared_read hwr.out)) (by decide)).mono ?_; rintro e w12 ⟨rfl, hb12⟩
      have hM12 := Lib.hid (hM11.out.below hb12)
      have hF12 := Lib.hid (hF11.out.below.out _ hb12)
      have hP12 := hP11.below hb12
      have hB12 := Lib.hid (below_then hB11.out hb12)
      clear hb12 p0 p1 p2 p3
      have p0 := hP12.c0
      have p1 := hP12.c1
      have p2 := hP12.c2
      have p3 := hP12.c3
      go_wp2_with fail
      refine (f46_ok hM12 hij hF12 hx hpp hs2 0 a3 b3 (Lib.hid (tag2_no (by rw [cleared_tag, if_pos (.inl rfl)]) (by rw [cleared_tag, if_pos (.inr rfl)])))).mono ?_; rintro e w13 ⟨rfl, O13, F13, M13⟩
      have hB13 : Hid (Below w1.heap.size w1 w13) := Lib.hid (hB12.out.trans (O13.belowN hB12.out.size (fun k hk he => by have := hfb'.out; omega)))
      clear F13 M13 O13
      go_wp2_with fail
      go_ret
      exact ⟨rfl, below_then hb1'.out hB13.out⟩
    · go_wp2_with fail
      refine (st_num hM8 hij hF8 hx (off := a1) (o := o) ho (n := 8) (Lib.hid (by decide)) (Lib.hid (by have := hr.out; omega)) (.int .u64 0) (x := 1) (by decide) 0 0 (Lib.hid (meets_no (by decide) (by have := ho.out; have := hpp.out; have := hp.out; omega)))).mono ?_; rintro e w9 ⟨rfl, O9, F9, M9⟩
      have hwr : Hid ((wrote (marked FS.zero s a3) o 8 (fun i => 1 / 2 ^ (8 * i) % 256)).wr (8 * s) = false) := Lib.hid (wrote_wr' (by have := ho.out; have := hpp.out; have := hp.out; omega) (marked_wr _ _ _))
      have hbg : Hid ((wrote (marked FS.zero s a3) o 8 (fun i => 1 / 2 ^ (8 * i) % 256)).beg s = true) := Lib.hid (by rw [wrote_beg']; exact marked_beg _ _ _)
      have hM9 := Lib.hid M9
      have hF9 := Lib.hid F9
      have hP9 := hP8.only O9 (fun he => by have := hbl.out; omega)
      have hB9 : Hid (Below w1.heap.size w1 w9) := Lib.hid (hB8.out.trans (O9.belowN hB8.out.size (fun k hk he => by have := hfb'.out; omega)))
      clear M9 F9 O9 q0 q1 q2 q3
      have p0 := hP9.c0
      have p1 := hP9.c1
      have p2 := hP9.c2
      have p3 := hP9.c3
      go_wp2_with fail
      refine (f48_ok hM9 hij hF9 hx hpp hs2 0 hbg).mono ?_; rintro e w10 ⟨rfl, O10, F10, M10⟩
      have hM10 := Lib.hid M10
      have hF10 := Lib.hid F10
      have hP10 := hP9.only O10 (fun he => by have := hbl.out; omega)
      have hB10 : Hid (Below w1.heap.size w1 w10) := Lib.hid (hB9.out.trans (O10.belowN hB9.out.size (fun k hk he => by have := hfb'.out; omega)))
      clear M10 F10 O10 p0 p1 p2 p3
      have p0 := hP10.c0
      have p1 := hP10.c1
      have p2 := hP10.c2
      have p3 := hP10.c3
      go_wp2_with fail
      refine (f48_trap hM10 hij hF10 hx hpp hs2 0 (Lib.hid (cleared_beg _ _))).mono ?_; rintro e w11 ⟨rfl, hb11⟩
      have hM11 := Lib.hid (hM10.out.below hb11)
      have hF11 := Lib.hid (hF10.out.below.out _ hb11)
      have hP11 := hP10.below hb11
      have hB11 := Lib.hid (below_then hB10.out hb11)
      clear hb11 p0 p1 p2 p3
      have p0 := hP11.c0
      have p1 := hP11.c1
      have p2 := hP11.c2
      have p3 := hP11.c3
      go_wp2_with fail
      refine (ld_trap hM11 hij hF11 hx (off := p) (o := 8 * s) hpp (n := 8) (Lib.hid (by decide)) (Lib.hid (by have := hs2.out; omega)) (.int .u64 0) (fun h => by have h2 := h.2.2.2; rw [show 8 * s / 8 = s by omega, cleared_has] at h2; exact absurd h2 (by decide)) (Lib.hid (cleared_read hwr.out)) (by decide)).mono ?_; rintro e w12 ⟨rfl, hb12⟩
      have hM12 := Lib.hid (hM11.out.below hb12)
      have hF12 := Lib.hid (hF11.out.below.out _ hb12)
      have hP12 := hP11.below hb12
      have hB12 := Lib.hid (below_then hB11.out hb12)
      clear hb12 p0 p1 p2 p3
      have p0 := hP12.c0
      have p1 := hP12.c1
      have p2 := hP12.c2
      have p3 := hP12.c3
      go_wp2_with fail
      refine (f46_ok hM12 hij hF12 hx hpp hs2 0 a3 b3 (Lib.hid (tag2_no (by rw [cleared_tag, if_pos (.inl rfl)]) (by rw [cleared_tag, if_pos (.inr rfl)])))).mono ?_; rintro e w13 ⟨rfl, O13, F13, M13⟩
      have hB13 : Hid (Below w1.heap.size w1 w13) := Lib.hid (hB12.out.trans (O13.belowN hB12.out.size (fun k hk he => by have := hfb'.out; omega)))
      clear F13 M13 O13
      go_wp2_with fail
      go_ret
      exact ⟨rfl, below_then hb1'.out hB13.out⟩
  · go_wp2_with fail
    refine (st_num hM8 hij hF8 hx (off := a1) (o := o) ho (n := 8) (Lib.hid (by decide)) (Lib.hid (by have := hr.out; omega)) (.int .u64 0) (x := 1) (by decide) 0 0 (Lib.hid (meets_no (by decide) (by have := ho.out; have := hpp.out; have := hp.out; omega)))).mono ?_; rintro e w9 ⟨rfl, O9, F9, M9⟩
    have hwr : Hid ((wrote (marked FS.zero s a3) o 8 (fun i => 1 / 2 ^ (8 * i) % 256)).wr (8 * s) = false) := Lib.hid (wrote_wr' (by have := ho.out; have := hpp.out; have := hp.out; omega) (marked_wr _ _ _))
    have hbg : Hid ((wrote (marked FS.zero s a3) o 8 (fun i => 1 / 2 ^ (8 * i) % 256)).beg s = true) := Lib.hid (by rw [wrote_beg']; exact marked_beg _ _ _)
    have hM9 := Lib.hid M9
    have hF9 := Lib.hid F9
    have hP9 := hP8.only O9 (fun he => by have := hbl.out; omega)
    have hB9 : Hid (Below w1.heap.size w1 w9) := Lib.hid (hB8.out.trans (O9.belowN hB8.out.size (fun k hk he => by have := hfb'.out; omega)))
    clear M9 F9 O9 q0 q1 q2 q3
    have p0 := hP9.c0
    have p1 := hP9.c1
    have p2 := hP9.c2
    have p3 := hP9.c3
    go_wp2_with fail
    refine (f48_ok hM9 hij hF9 hx hpp hs2 0 hbg).mono ?_; rintro e w10 ⟨rfl, O10, F10, M10⟩
    have hM10 := Lib.hid M10
    have hF10 := Lib.hid F10
    have hP10 := hP9.only O10 (fun he => by have := hbl.out; omega)
    have hB10 : Hid (Below w1.heap.size w1 w10) := Lib.hid (hB9.out.trans (O10.belowN hB9.out.size (fun k hk he => by have := hfb'.out; omega)))
    clear M10 F10 O10 p0 p1 p2 p3
    have p0 := hP10.c0
    have p1 := hP10.c1
    have p2 := hP10.c2
    have p3 := hP10.c3
    go_wp2_with fail
    refine (f48_trap hM10 hij hF10 hx hpp hs2 0 (Lib.hid (cleared_beg _ _))).mono ?_; rintro e w11 ⟨rfl, hb11⟩
    have hM11 := Lib.hid (hM10.out.below hb11)
    have hF11 := Lib.hid (hF10.out.below.out _ hb11)
    have hP11 := hP10.below hb11
    have hB11 := Lib.hid (below_then hB10.out hb11)
    clear hb11 p0 p1 p2 p3
    have p0 := hP11.c0
    have p1 := hP11.c1
    have p2 := hP11.c2
    have p3 := hP11.c3
    go_wp2_with fail
    refine (ld_trap hM11 hij hF11 hx (off := p) (o := 8 * s) hpp (n := 8) (Lib.hid (by decide)) (Lib.hid (by have := hs2.out; omega)) (.int .u64 0) (fun h => by have h2 := h.2.2.2; rw [show 8 * s / 8 = s by omega, cleared_has] at h2; exact absurd h2 (by decide)) (Lib.hid (cleared_read hwr.out)) (by decide)).mono ?_; rintro e w12 ⟨rfl, hb12⟩
    have hM12 := Lib.hid (hM11.out.below hb12)
    have hF12 := Lib.hid (hF11.out.below.out _ hb12)
    have hP12 := hP11.below hb12
    have hB12 := Lib.hid (below_then hB11.out hb12)
    clear hb12 p0 p1 p2 p3
    have p0 := hP12.c0
    have p1 := hP12.c1
    have p2 := hP12.c2
    have p3 := hP12.c3
    go_wp2_with fail
    refine (f46_ok hM12 hij hF12 hx hpp hs2 0 a3 b3 (Lib.hid (tag2_no (by rw [cleared_tag, if_pos (.inl rfl)]) (by rw [cleared_tag, if_pos (.inr rfl)])))).mono ?_; rintro e w13 ⟨rfl, O13, F13, M13⟩
    have hB13 : Hid (Below w1.heap.size w1 w13) := Lib.hid (hB12.out.trans (O13.belowN hB12.out.size (fun k hk he => by have := hfb'.out; omega)))
    clear F13 M13 O13
    go_wp2_with fail
    go_ret
    exact ⟨rfl, below_then hb1'.out hB13.out⟩
set_option maxRecDepth 100000 in
set_option maxHeartbeats 8000000 in
theorem tags_no (a0 a1 a2 a3 : Int) (w : World) (h1 : a2 ≠ 1) (h2 : a2 ≠ 2) (h4 : a2 ≠ 4) (h8 : a2 ≠ 8) :
    Calls Try.prog 11 #[.int .i64 a0, .int .i64 a1, .int .i64 a2, .int .i64 a3] w fun e w' => e = .returned (.bool true) ∧ Below w.heap.size w w' := by
  have b1 : (a2 != 1) = true := by simpa using h1
  have b2 : (a2 != 2) = true := by simpa using h2
  have b4 : (a2 != 4) = true := by simpa using h4
  have b8 : (a2 != 8) = true := by simpa using h8
  clear h1 h2 h4 h8
  go_enter Try.func11, Try.ntmps11
  go_wp2_with fail
  refine (f39_ok w).mono ?_; rintro e w1 ⟨rfl, hb1⟩
  go_wp2_with fail
  all_goals (go_ret; exact ⟨rfl, hb1⟩)
theorem regionTags_walk (a0 a1 a2 a3 : Int) (w0 : (Lit.int .i64 a0).wf = true) (w1 : (Lit.int .i64 a1).wf = true) (w2 : (Lit.int .i64 a2).wf = true) (w3 : (Lit.int .i64 a3).wf = true) (w : World) :
    Calls Try.prog 11 #[.int .i64 a0, .int .i64 a1, .int .i64 a2, .int .i64 a3] w fun e w' => e = .returned (.bool true) ∧ Below w.heap.size w w' := by
  by_cases h1 : a2 = 1
  · subst h1; exact tags_1 a0 a1 a3 w
  by_cases h2 : a2 = 2
  · subst h2; exact tags_2 a0 a1 a3 w
  by_cases h4 : a2 = 4
  · subst h4; exact tags_4 a0 a1 a3 w
  by_cases h8 : a2 = 8
  · subst h8; exact tags_8 a0 a1 a3 w
  exact tags_no a0 a1 a2 a3 w h1 h2 h4 h8
end Go.Proofs.Ytmjeloinibembaa
