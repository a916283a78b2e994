/-
  RingOrder: the walk of the law.
-/
import Derived.Test.YtmjeloinibembaaOrdC
namespace Go.Proofs.Ytmjeloinibembaa
open Go.RowKit
set_option linter.unusedVariables false
set_option linter.unusedSimpArgs false
theorem u8_wrap (i k : Nat) : IntKind.u8.wrap ((i : Int) + (k : Int)) = (((i + k) % 256 : Nat) : Int) := by
  rw [IntKind.wrap_u8]; omega
set_option maxRecDepth 100000 in
set_option maxHeartbeats 16000000 in
theorem order (w : World) {n0 c0 n1 c1 n2 c2 : Nat} {a0 a1 a2 : Option Addr} {ls lh lt : List Nat} (hn : n0 ≤ 20) (h0 : Hid (ls.length = n0 ∧ SlB w.heap.size (· < w.heap.size) w (.slice a0 n0 c0) ls)) (h1 : Hid (lh.length = n1 ∧ SlB w.heap.size (· < w.heap.size) w (.slice a1 n1 c1) lh)) (h2 : Hid (lt.length = n2 ∧ SlB w.heap.size (· < w.heap.size) w (.slice a2 n2 c2) lt)) :
    Calls Try.prog 5 #[.slice a0 n0 c0, .slice a1 n1 c1, .slice a2 n2 c2] w fun e w' => e = .returned (.bool true) ∧ Below w.heap.size w w' := by
  have g1 : ¬ (20 < (n0 : Int)) := by omega
  have hn' := Lib.hid hn
  clear hn
  go_enter Try.func5, Try.ntmps5
  go_wp2_with fail
  refine (f12_ok w).mono ?_; rintro e w1 ⟨rfl, hb1⟩
  have hb1_ := hb1
  clear hb1
  have hb1 := Lib.hid hb1_
  clear hb1_
  go_wp2_with fail
  refine (f14_ok w1).mono ?_; rintro e w2 ⟨rfl, hw2⟩
  have hw2_ := hw2
  clear hw2
  have hw2 := Lib.hid hw2_
  clear hw2_
  go_wp2_with fail
  refine (new_ok w2 (size := 4096) (by decide) (by decide) (by decide) hw2.out rfl).mono ?_; rintro e w3 ⟨R, rg, rfl, hrg, hsz, hmb, hrows, hrs, hR, hB⟩
  obtain ⟨mb, hmbe⟩ : ∃ mb, Hid (w1.heap.size = mb) := ⟨_, Lib.hid rfl⟩
  have hS : Hid (Ph1 ls w1.heap.size (· < w1.heap.size) w3 R rg w1.heap.size 0 0 (.slice none 0 0) (.slice none 0 0) (wantC ls lh 0)) := Lib.hid ⟨⟨⟨[], [], Two.start hR⟩, fun p hp => by
    obtain rfl := List.mem_singleton.1 hp
    exact ⟨RowAt.nil _ _ _, fun k hk => by simp [Value.ownBlock] at hk⟩, List.pairwise_singleton _ _⟩, hrg, hmb, hsz, by rw [hrows]; rfl, fun j r hj => by rw [hrows] at hj; simp at hj, by rw [hrs]; rfl, fun j x hj => by rw [hrs] at hj; simp at hj⟩
  clear hR hrg hsz hrows hrs hmb
  have hB_ := hB
  clear hB
  have hB := Lib.hid hB_
  clear hB_
  have hBB : Hid (Below w.heap.size w w3) := Lib.hid (hb1.out.trans (hB.out.mono hb1.out.size))
  have hb1s : Hid (w.heap.size ≤ w1.heap.size) := Lib.hid hb1.out.size
  go_wp2_with fail
  go_loopg [10, 11, 13, 14, 15, 16, 17, 18] n0 (fun g Vi Vw i x14 x15 x16 x17 x18 wr => ∃ (k : Nat) (Pr : Nat → Prop) (R : RingS), Hid (g = n0 - k) ∧ k ≤ n0 ∧ i = .int .i64 k ∧ Hid (Ph1 ls w1.heap.size Pr wr R rg w1.heap.size k k Vi Vw (wantC ls lh k)) ∧ Hid (Below w.heap.size w wr))
  case atStart => exact ⟨0, _, R, Lib.hid rfl, Nat.zero_le _, rfl, hS, hBB⟩
  case round =>
    obtain ⟨i, Pr, R2, hg, hi, rfl, hS2, hB2⟩ := hrel
    clear hS hBB
    by_cases hlt : i < n0
    · have hlt' : (i : Int) < (n0 : Int) := by omega
      have hil : i < ls.length := by rw [h0.out.1]; exact hlt
      obtain ⟨x, hx⟩ : ∃ x, ls[i]? = some x := ⟨_, List.getElem?_eq_getElem hil⟩
      obtain ⟨ga, oa, rfl, hca, hx256⟩ := h0.out.2.at hx
      have ca := (hB2.out.cell (World.block_lt_of_cell? _ _ hca)).trans hca
      obtain ⟨nn, hnn⟩ : ∃ nn, Hid (nj ls i = nn) := ⟨_, Lib.hid rfl⟩
      have hnn1 : Hid (1 ≤ nn ∧ nn ≤ 100) := Lib.hid (by rw [← hnn.out]; exact nj_le ls i)
      have e1 : (x : Int) % 100 + 1 = (nn : Int) := by
        have h := hnn.out
        unfold nj at h
        simp only [List.getD, hx, Option.getD_some] at h
        omega
      have hx0 : (0 : Int) ≤ (x : Int) := by omega
      have hx256' : (x : Int) < 256 := by omega
      have hi20 : Hid (i < 20) := Lib.hid (by have := hn'.out; omega)
      clear hil hx hca hx256
      go_wp2_with fail
      refine (reserve_ok wr (Lib.hid hS2.out.tri.ring) (Lib.hid hS2.out.rg_) (n := nn) (Lib.hid (by have := hnn1.out; omega)) (Lib.hid (by
        have h3 := hS2.out.used
        have h4 := hS2.out.size
        have h5 := hnn1.out
        have h6 := hi20.out
        rw [h4]; unfold takesN; omega)) (Lib.hid (by rw [hS2.out.rslen]; have := hi20.out; omega))).mono ?_
      rintro e w4 ⟨d, rfl, hd, hO4, R4, xb, rb, bb, hR4, hSm4, hrows4, hrs4⟩
      obtain ⟨w5, hmk, hbt, hth, hk5, hb5, hlt5⟩ := make_bytes w4 (n := nn) (v := nn) (by have := hnn1.out; omega) rfl
      obtain ⟨b5, hb5e⟩ : ∃ b5, Hid (w4.heap.size = b5) := ⟨_, Lib.hid rfl⟩
      rw [hb5e.out] at hmk hbt hth hk5 hlt5
      have hd_ := hd
      clear hd
      have hd := Lib.hid hd_
      clear hd_
      have hO4_ := hO4
      clear hO4
      have hO4 := Lib.hid hO4_
      clear hO4_
      have hR4_ := hR4
      clear hR4
      have hR4 := Lib.hid hR4_
      clear hR4_
      have hSm4_ := hSm4
      clear hSm4
      have hSm4 := Lib.hid hSm4_
      clear hSm4_
      have hrows4_ := hrows4
      clear hrows4
      have hrows4 := Lib.hid hrows4_
      clear hrows4_
      have hrs4_ := hrs4
      clear hrs4
      have hrs4 := Lib.hid hrs4_
      clear hrs4_
      have hbt_ := hbt
      clear hbt
      have hbt := Lib.hid hbt_
      clear hbt_
      have hth_ := hth
      clear hth
      have hth := Lib.hid hth_
      clear hth_
      have hk5_ := hk5
      clear hk5
      have hk5 := Lib.hid hk5_
      clear hk5_
      have hb5_ := hb5
      clear hb5
      have hb5 := Lib.hid hb5_
      clear hb5_
      have hlt5_ := hlt5
      clear hlt5
      have hlt5 := Lib.hid hlt5_
      clear hlt5_
      go_wp2_with fail
      go_loopg [18] nn (fun g v wr => ∃ k : Nat, Hid (g = nn - k) ∧ k ≤ nn ∧ v = .int .i64 k ∧ Hid (Below w4.heap.size w4 wr) ∧ Hid (Thaw wr b5 ∧ KindAt wr b5 5) ∧ Hid (∀ j, j < nn → wr.cell? ⟨b5, j, none⟩ = some (.int .u8 (if j < k then (((i + j) % 256 : Nat) : Int) else 0))))
      case atStart => exact ⟨0, Lib.hid rfl, Nat.zero_le _, rfl, hb5, Lib.hid ⟨hth.out, hk5.out⟩, Lib.hid fun j hj => by have := hbt.out j hj; rw [Nat.zero_add] at this; rw [if_neg (by omega)]; exact this⟩
      case round =>
        obtain ⟨k, hg6, hk6, rfl, hb6, hT6, hc6⟩ := hrel
        by_cases hlt6 : k < nn
        · have hlt6' : (k : Int) < (nn : Int) := by omega
          have hcc := hc6.out k hlt6
          rw [if_neg (by omega)] at hcc
          have hzz := hT6.out.1 k
          have huw := u8_wrap i k
          have hkk := hnn1.out
          have hii := hi20.out
          have hik : (i : Int) + (k : Int) < 200 := by omega
          go_wp2_with fail
          go_roundg (nn - (k + 1))
          case measure => rw [hg6.out]; omega
          case rel =>
            refine ⟨k + 1, Lib.hid rfl, hlt6, by go_num, Lib.hid (hb6.out.setCell (by have := hb5e.out; show w4.heap.size ≤ b5; omega) _), Lib.hid ⟨hT6.out.1.setCell _ _, hT6.out.2.setCell _ _⟩, Lib.hid fun j hj => ?_⟩
            by_cases hjk : j = k
            · subst hjk; rw [cell_same _ hcc, if_pos (by omega)]; simp
            · rw [cell_ne _ (.inr (by omega)), hc6.out j hj]
              by_cases h3 : j < k
              · rw [if_pos h3, if_pos (by omega)]
              · rw [if_neg h3, if_neg (by omega)]
        · obtain rfl : k = nn := by omega
          have hbts : Hid (Bts wr b5 0 k (fun j => (i + j) % 256)) := Lib.hid fun j hj => by rw [Nat.zero_add, hc6.out j hj, if_pos hj]
          have hbyte : Hid (∀ j, j < k → (i + j) % 256 < 256) := Lib.hid fun j hj => Nat.mod_lt _ (by decide)
          have hb5s : Hid (w4.heap.size ≤ b5 ∧ b5 < wr.heap.size) := Lib.hid ⟨Nat.le_of_eq hb5e.out, hT6.out.2.lt⟩
          have hR6 : Hid (RingAt w1.heap.size (fun j => Pr j ∨ j = b5) wr R4) := Lib.hid (hR4.out.law (S := fun _ => False) (Only.of_below hb6.out) (fun _ h => h.elim) (fun j hj => .inl (hR4.out.low j hj)) fun j hj => by
            rcases hj with hj | hj
            · exact ⟨Nat.lt_of_lt_of_le (hR4.out.prlt j hj) hb6.out.size, .inl hj⟩
            · exact hj ▸ ⟨hb5s.out.2, .inr hb5s.out.1⟩)
          have hx4 : Hid (R4.rs[i]? = some ⟨rb, bb, k, false, fun _ => 0⟩) := Lib.hid (by rw [hrs4.out, List.getElem?_append_right (by rw [hS2.out.rslen]; exact Nat.le_refl _), hS2.out.rslen, Nat.sub_self]; rfl)
          go_wp2_with fail
          refine (set_ok wr hR6 (Lib.hid (hSm4.out.2.2.trans hS2.out.mb_)) hx4 hbts hbyte (Lib.hid ⟨Nat.le_refl _, hnn1.out.1⟩) (id := (d : Int)) (Lib.hid (by rw [hd.out, hS2.out.rslen]; simp))).mono ?_
          rintro e w7 ⟨rfl, hO7, R7, hR7, hSm7, hrows7, hrs7⟩
          have hP7 := ph1_set hS2.out hO4.out hR4.out hSm4.out hd.out (by rw [hnn.out]; exact hrows4.out) (by rw [hnn.out]; exact hrs4.out) hb6.out hb5s.out hO7 hR7 hSm7 hrows7 (by rw [hnn.out]; exact hrs7) (fun j hj => by rw [hnn.out] at hj; exact if_pos hj)
          have hsl7 : SlB w1.heap.size (fun j => Pr j ∨ j = b5) w7 (.slice (some ⟨b5, 0, none⟩) k k) (ct ls i) := by
            have hl : (ct ls i).length = k := by simp [ct, hnn.out]
            refine ⟨⟨_, k, by rw [hl], .inr ⟨b5, 0, rfl, .inr rfl, Nat.lt_of_lt_of_le hb5s.out.2 hO7.size, .inr (hO7.kind _ _ (by decide) hT6.out.2), fun j y hy => ?_⟩⟩, fun y hy => ?_⟩
            · have hj : j < k := by have := (List.getElem?_eq_some_iff.1 hy).1; omega
              rw [hO7.cell (p := ⟨b5, 0 + j, none⟩) hb5s.out.2 (fun h => h (.inr rfl)), hbts.out j hj]
              simp [ct, hnn.out, hj] at hy
              rw [← hy]
            · simp only [ct, List.mem_map] at hy
              obtain ⟨j, _, rfl⟩ := hy
              exact Nat.mod_lt _ (by decide)
          obtain ⟨Vi8, w8, Pr8, hap1, hP8, hb8, hpr8⟩ := ph1_ids hP7 (by have := hi20.out; omega) (d := (d : Int)) (by rw [hd.out, hS2.out.rslen])
          have hB7 : Below w.heap.size w w7 := by
            have q1 : Below w.heap.size w w4 := hB2.out.trans (hO4.out.belowN hB2.out.size fun j hj h => h (hS2.out.tri.ring.low _ (Nat.lt_of_lt_of_le hj hb1s.out)))
            have q2 : Below w.heap.size w wr := q1.trans (hb6.out.mono q1.size)
            exact q2.trans (hO7.belowN q2.size fun j hj h => h (.inl (hS2.out.tri.ring.low _ (Nat.lt_of_lt_of_le hj hb1s.out))))
          have hsl8 : SlB w1.heap.size Pr8 w8 (.slice (some ⟨b5, 0, none⟩) k k) (ct ls i) := hpr8 _ _ hsl7
          have hB8 : Hid (Below w.heap.size w w8) := Lib.hid (hB7.trans (hb8.mono hb1s.out))
          have hap1 := Lib.hid hap1
          have hP8 := Lib.hid hP8
          have hsl8 := Lib.hid hsl8
          clear hP7 hsl7 hb8 hpr8 hB7 hO7 hR7 hSm7 hrows7 hrs7
          by_cases hh : (n1 : Int) ≤ (i : Int)
          · have hsb : sbm lh i = true := by unfold sbm; rw [h1.out.1]; simp; omega
            obtain ⟨Vw9, w9, Pr9, hap2, hP9, hb9⟩ := ph1_want hP8.out (by have := wantC_len ls lh i; have := hi20.out; omega) hsl8.out
            have hap2 := Lib.hid hap2
            have hP9 : Hid (Ph1 ls w1.heap.size Pr9 w9 R7 rg w1.heap.size (i + 1) (i + 1) Vi8 Vw9 (wantC ls lh (i + 1))) := Lib.hid (by rw [wantC_succ1 hsb]; exact hP9)
            have hB9 : Hid (Below w.heap.size w w9) := Lib.hid (hB8.out.trans (hb9.mono hb1s.out))
            clear hb9 hsb
            go_wp2_with (first | (at_builtin; refine wpList_plain rfl fun K hK => wp_append_run (.tmp 81) (.tmp 83) 37 rfl _ _ _ rfl rfl hap1.out (hK _ _ ?_)) | (at_builtin; refine wpList_plain rfl fun K hK => wp_append_run (.tmp 97) (.tmp 99) 32 rfl _ _ _ rfl rfl hap2.out (hK _ _ ?_)))
            go_roundg (n0 - (i + 1))
            case measure => rw [hg.out]; omega
            case rel => exact ⟨i + 1, Pr9, R7, Lib.hid rfl, hlt, by go_num, hP9, hB9⟩
          · have hhl : i < lh.length := by rw [h1.out.1]; omega
            obtain ⟨y, hy⟩ : ∃ y, lh[i]? = some y := ⟨_, List.getElem?_eq_getElem hhl⟩
            obtain ⟨gh, oh, rfl, hch, hy256⟩ := h1.out.2.at hy
            have hci : ¬ (n1 : Int) ≤ (i : Int) := hh
            have hii1 : (i : Int) < (n1 : Int) := by omega
            have ch0 := (hB8.out.cell (World.block_lt_of_cell? _ _ hch)).trans hch
            by_cases hm3 : 0 < y % 3
            · have hsb : sbm lh i = true := by unfold sbm; rw [h1.out.1]; simp [List.getD, hy]; omega
              have hm3' : (0 : Int) < (y : Int) % 3 := by omega
              clear hy hy256 hch
              obtain ⟨Vw9, w9, Pr9, hap2, hP9, hb9⟩ := ph1_want hP8.out (by have := wantC_len ls lh i; have := hi20.out; omega) hsl8.out
              have hap2 := Lib.hid hap2
              have hP9 : Hid (Ph1 ls w1.heap.size Pr9 w9 R7 rg w1.heap.size (i + 1) (i + 1) Vi8 Vw9 (wantC ls lh (i + 1))) := Lib.hid (by rw [wantC_succ1 hsb]; exact hP9)
              have hB9 : Hid (Below w.heap.size w w9) := Lib.hid (hB8.out.trans (hb9.mono hb1s.out))
              clear hb9 hsb
              go_wp2_with (first | (at_builtin; refine wpList_plain rfl fun K hK => wp_append_run (.tmp 81) (.tmp 83) 37 rfl _ _ _ rfl rfl hap1.out (hK _ _ ?_)) | (at_builtin; refine wpList_plain rfl fun K hK => wp_append_run (.tmp 97) (.tmp 99) 32 rfl _ _ _ rfl rfl hap2.out (hK _ _ ?_)))
              go_roundg (n0 - (i + 1))
              case measure => rw [hg.out]; omega
              case rel => exact ⟨i + 1, Pr9, R7, Lib.hid rfl, hlt, by go_num, hP9, hB9⟩
            · have hsb : sbm lh i = false := by unfold sbm; rw [h1.out.1]; simp [List.getD, hy]; omega
              have hm3' : ¬ (0 : Int) < (y : Int) % 3 := by omega
              have hP9 : Hid (Ph1 ls w1.heap.size Pr8 w8 R7 rg w1.heap.size (i + 1) (i + 1) Vi8 u11 (wantC ls lh (i + 1))) := Lib.hid (by rw [wantC_succ0 hsb]; exact hP8.out)
              clear hy hy256 hch hsb
              go_wp2_with (first | (at_builtin; refine wpList_plain rfl fun K hK => wp_append_run (.tmp 81) (.tmp 83) 37 rfl _ _ _ rfl rfl hap1.out (hK _ _ ?_)))
              go_roundg (n0 - (i + 1))
              case measure => rw [hg.out]; omega
              case rel => exact ⟨i + 1, Pr8, R7, Lib.hid rfl, hlt, by go_num, hP9, hB8⟩
    · have hin : i = n0 := by omega
      subst hin
      obtain ⟨ai, ci, hvi⟩ := (hS2.out.tri.rows (u10, idsL i) (by simp)).1.len
      rw [idsL_len] at hvi
      simp only at hvi
      subst hvi
      obtain ⟨w4, hmk, hrow4, hb4⟩ := make_ints wr (n := i) (v := i) (by have := hn'.out; omega) rfl
      obtain ⟨b5, hb5e⟩ : ∃ b5, Hid (wr.heap.size = b5) := ⟨_, Lib.hid rfl⟩
      rw [hb5e.out] at hmk hrow4
      have hb5w : Hid (w1.heap.size ≤ b5) := Lib.hid (by rw [← hb5e.out]; exact hS2.out.tri.big)
      have hrow4_ := hrow4
      clear hrow4
      have hrow4 := Lib.hid hrow4_
      clear hrow4_
      have hb4_ := hb4
      clear hb4
      have hb4 := Lib.hid hb4_
      clear hb4_
      go_wp2_with fail
      go_loopg [20] i (fun g v wq => ∃ k : Nat, Hid (g = i - k) ∧ k ≤ i ∧ v = .int .i64 k ∧ Hid (Below b5 wr wq) ∧ Hid (RowAt b5 3 wq (.slice (some ⟨b5, 0, none⟩) i i) (numL (List.range k) ++ List.replicate (i - k) (Value.int .i64 0))))
      case atStart => exact ⟨0, Lib.hid rfl, Nat.zero_le _, rfl, Lib.hid (by rw [← hb5e.out]; exact hb4.out), hrow4⟩
      case round =>
        obtain ⟨k, hg3, hk3, rfl, hb3, hr3⟩ := hrel
        by_cases hlt3 : k < i
        · have hlt3' : (k : Int) < (i : Int) := by omega
          obtain ⟨gz, oz, hgz, -, hcc⟩ := hr3.out.at' (j := k) (x := .int .i64 0) (by rw [List.getElem?_append_right (by simp [numL]), List.getElem?_replicate, if_pos (by simp [numL]; omega)])
          simp only [Option.some.injEq, Addr.mk.injEq, and_true] at hgz
          obtain ⟨rfl, rfl⟩ := hgz
          rw [Nat.zero_add] at hcc
          have hzz := hr3.out.free.1 k
          have hset : Hid (∀ v, RowAt b5 3 (wr.setCell ⟨b5, k, none⟩ v) (.slice (some ⟨b5, 0, none⟩) i i) ((numL (List.range k) ++ List.replicate (i - k) (Value.int .i64 0)).set k v)) := Lib.hid fun v => by
            have := hr3.out.set (j := k) (by simp [numL]; omega) v
            rwa [Nat.zero_add] at this
          go_wp2_with fail
          go_roundg (i - (k + 1))
          case measure => rw [hg3.out]; omega
          case rel =>
            refine ⟨k + 1, Lib.hid rfl, hlt3, by go_num, Lib.hid (hb3.out.setCell (Nat.le_refl _) _), Lib.hid ?_⟩
            have h8 := hset.out (.int .i64 (k : Int))
            rw [show i - k = (i - (k + 1)) + 1 by omega, fill_set] at h8
            exact h8
        · have hki : i = k := by omega
          subst hki
          have hP0 : Hid (∃ Pr0, Ph3 ls lh w1.heap.size Pr0 wr R2 rg i 0 (.slice (some ⟨b5, 0, none⟩) i i) (.slice ai i ci) u11 (.slice none 0 0) (List.range i)) := Lib.hid ⟨_, ph3_start (b := b5) hS2.out (by rw [hb5e.out]; exact hb3.out) (Nat.le_of_eq hb5e.out) (by have := hr3.out.base hb5w.out; rwa [Nat.sub_self, List.replicate_zero, List.append_nil] at this) rfl⟩
          have hB0 : Hid (Below w.heap.size w wr) := Lib.hid (hB2.out.trans (hb3.out.mono (by rw [← hb5e.out]; exact hB2.out.size)))
          clear hr3 hb3 hrow4 hb4 hmk
          go_wp2_with fail
          go_loopg [9, 12, 19, 21, 22, 23] i (fun g e9 Vg Vl t x22 x23 wq => ∃ (m s : Nat) (Pr : Nat → Prop) (R : RingS) (L : List Nat), Hid (g = i - m) ∧ m ≤ i ∧ t = .int .i64 m ∧ Hid (Ph3 ls lh w1.heap.size Pr wq R rg i s Vl (.slice ai i ci) u11 Vg L) ∧ Hid (L.length = i - m) ∧ Hid (∀ r, R.rows.head? = some r → r.st = 0) ∧ Hid (Below w.heap.size w wq))
          case atStart =>
            obtain ⟨Pr0, hP0⟩ := hP0.out
            exact ⟨0, 0, Pr0, R2, List.range i, Lib.hid rfl, Nat.zero_le _, rfl, Lib.hid hP0, Lib.hid (by simp), Lib.hid fun r hr => by
              have : R2.rows[0]? = some r := by rw [← List.head?_eq_getElem?]; exact hr
              exact (hS2.out.rows 0 r this).2.2, hB0⟩
          case round =>
            obtain ⟨k, s, Pr4, R4, L, hg4, hk4, rfl, hP4, hLl, hh4, hB4⟩ := hrel
            clear hP0 hB0
            by_cases hlt4 : k < i
            · have hlt4' : (k : Int) < (i : Int) := by omega
              obtain ⟨gl, ol, cl, rfl⟩ : ∃ g o c, u19 = .slice (some ⟨g, o, none⟩) L.length c := by
                have hrw := (hP4.out.tri.rows _ (List.mem_cons_self ..)).1
                simp only at hrw
                rcases hrw with ⟨_, h9⟩ | ⟨g, o, cap, h9, _⟩
                · exfalso; have h10 : (numL L).length = 0 := by rw [h9]; rfl
                  have h11 : (numL L).length = L.length := by simp [numL]
                  have h12 := hLl.out; omega
                · exact ⟨g, o, cap, by rw [h9]; simp [numL]⟩
              obtain ⟨ln, hln⟩ : ∃ ln, Hid (L.length = ln) := ⟨_, Lib.hid rfl⟩
              have hlc : ln ≤ cl := by
                have := ((hP4.out.tri.rows _ (List.mem_cons_self ..)).1.behind (k := 0) (Nat.zero_le _)).2.1
                rw [hln.out] at this; exact this
              have hln0 : 0 < ln := by have := hLl.out; have := hln.out; omega
              have hln0' : (0 : Int) < (ln : Int) := by omega
              have hln00 : ¬ ((ln : Int) = 0) := by omega
              have hln20 : (ln : Int) ≤ 20 := by have := hLl.out; have := hln.out; have := hn'.out; omega
              rw [hln.out]
              by_cases htt : (k : Int) < (n2 : Int)
              · have htl : k < lt.length := by rw [h2.out.1]; omega
                obtain ⟨x, hx⟩ : ∃ x, lt[k]? = some x := ⟨_, List.getElem?_eq_getElem htl⟩
                obtain ⟨ga, oa, rfl, hca, hx256⟩ := h2.out.2.at hx
                have ca := (hB4.out.cell (World.block_lt_of_cell? _ _ hca)).trans hca
                obtain ⟨at_, hat⟩ : ∃ a, Hid (x % ln = a) := ⟨_, Lib.hid rfl⟩
                have hatL : Hid (at_ < L.length) := Lib.hid (by rw [hln.out, ← hat.out]; exact Nat.mod_lt _ hln0)
                have em : (x : Int) % (ln : Int) = (at_ : Int) := by rw [← hat.out]; rfl
                have em2 : wrap64 (at_ : Int) = (at_ : Int) := by have := hatL.out; have := hLl.out; have := hn'.out; unfold wrap64; omega
                have hx256' : (x : Int) < 256 := by omega
                clear hx hca htl
                obtain ⟨kk, hkk⟩ : ∃ kk, L[at_]? = some kk := ⟨_, List.getElem?_eq_getElem hatL.out⟩
                obtain ⟨gz, oz, hgz, -, cl0⟩ := (hP4.out.tri.rows _ (List.mem_cons_self ..)).1.at' (numL_at hkk)
                simp only [Option.some.injEq, Addr.mk.injEq, and_true] at hgz
                obtain ⟨rfl, rfl⟩ := hgz
                have hkN : kk < i := hP4.out.nod.2 kk (List.mem_of_getElem? hkk)
                obtain ⟨r, hr, hrst, hrid⟩ := hP4.out.at (List.mem_of_getElem? hkk)
                have hr := Lib.hid hr
                have hrst_ := hrst
                clear hrst
                have hrst := Lib.hid hrst_
                clear hrst_
                have hrid_ := hrid
                clear hrid
                have hrid := Lib.hid hrid_
                clear hrid_
                have hkk_ := hkk
                clear hkk
                have hkk := Lib.hid hkk_
                clear hkk_
                obtain ⟨ad, had⟩ : ∃ ad, Hid ((if cl = at_ + 1 then some ⟨gl, ol, none⟩ else some ⟨gl, ol + (at_ + 1), none⟩ : Option Addr) = ad) := ⟨_, Lib.hid rfl⟩
                have hatl : (at_ : Int) < (ln : Int) := by have := hatL.out; have := hln.out; omega
                have hatl2 : (at_ : Int) + 1 ≤ (ln : Int) := by omega
                have hatl3 : at_ < ln := by omega
                have hat0 : (0 : Int) ≤ (at_ : Int) + 1 := by omega
                have hatl4 : at_ ≤ cl := by omega
                have hatc : (at_ : Int) ≤ (cl : Int) := by omega
                have hkkN : (kk : Int) < (i : Int) := by omega
                go_wp2_with fail
                refine Reg.start (S := (fun _ => True)) (B := (fun _ => false)) (by kernel_rfl) ?_
                have hbd : Below wr.heap.size wr wr.drew := (Below.refl _ _).drew
                have hP5 := Lib.hid (hP4.out.below hbd)
                have hBd := Lib.hid (hB4.out.drew)
                clear hbd
                revert hP5 hBd
                generalize wr.drew = w5
                intro hP5 hBd
                obtain ⟨Vl6, w6, Pr6, hap, hb6, hT6⟩ := ph3_left hP5.out hatL.out (by have := hLl.out; have := hn'.out; omega) had.out
                rw [hln.out] at hap
                have hB6 := Lib.hid (hBd.out.trans (hb6.mono hb1s.out))
                have hT6 := Lib.hid hT6
                clear hb6
                refine Reg.take0 (i := 0) (v := ?_) rfl (by kernel_rfl) (by kernel_rfl) (by kernel_rfl) (by kernel_rfl) (fun _ _ _ h => h) (Or.inl ⟨by rfl, ?_⟩) ?_
                rotate_left
                · (intro w _; go_simp; try with_reducible rfl)
                try simp only [Act.put, List.getElem_toArray, List.getElem_cons_succ, List.getElem_cons_zero, List.setIfInBounds_toArray, List.set_cons_zero, List.set_cons_succ]
                refine Reg.take0 (i := 1) (v := ?_) rfl (by kernel_rfl) (by kernel_rfl) (by kernel_rfl) (by kernel_rfl) (fun _ _ _ h => h) (Or.inl ⟨by rfl, ?_⟩) ?_
                rotate_left
                · (intro w _; go_simp; try with_reducible rfl)
                try simp only [Act.put, List.getElem_toArray, List.getElem_cons_succ, List.getElem_cons_zero, List.setIfInBounds_toArray, List.set_cons_zero, List.set_cons_succ]
                refine Reg.take0 (i := 2) (v := ?_) rfl (by kernel_rfl) (by kernel_rfl) (by kernel_rfl) (by kernel_rfl) (fun _ _ _ h => h) (Or.inl ⟨by rfl, ?_⟩) ?_
                rotate_left
                · (intro w _; go_simp; try with_reducible rfl)
                try simp only [Act.put, List.getElem_toArray, List.getElem_cons_succ, List.getElem_cons_zero, List.setIfInBounds_toArray, List.set_cons_zero, List.set_cons_succ]
                refine Reg.take0 (i := 3) (v := .slice (some ⟨gl, ol, none⟩) at_ at_) rfl (by kernel_rfl) (by kernel_rfl) (by kernel_rfl) (by kernel_rfl) (fun _ _ _ h => h) (Or.inl ⟨by rfl, ?_⟩) ?_
                · (intro w _; go_simp; try with_reducible rfl)
                try simp only [Act.put, List.getElem_toArray, List.getElem_cons_succ, List.getElem_cons_zero, List.setIfInBounds_toArray, List.set_cons_zero, List.set_cons_succ]
                refine Reg.take0 (i := 4) (v := ?_) rfl (by kernel_rfl) (by kernel_rfl) (by kernel_rfl) (by kernel_rfl) (fun _ _ _ h => h) (Or.inl ⟨by rfl, ?_⟩) ?_
                rotate_left
                · (intro w _; go_simp; try with_reducible rfl)
                try simp only [Act.put, List.getElem_toArray, List.getElem_cons_succ, List.getElem_cons_zero, List.setIfInBounds_toArray, List.set_cons_zero, List.set_cons_succ]
                refine Reg.take0 (i := 5) (v := ?_) rfl (by kernel_rfl) (by kernel_rfl) (by kernel_rfl) (by kernel_rfl) (fun _ _ _ h => h) (Or.inl ⟨by rfl, ?_⟩) ?_
                rotate_left
                · (intro w _; go_simp; try with_reducible rfl)
                try simp only [Act.put, List.getElem_toArray, List.getElem_cons_succ, List.getElem_cons_zero, List.setIfInBounds_toArray, List.set_cons_zero, List.set_cons_succ]
                refine Reg.take0 (i := 6) (v := .int .i64 ((at_ + 1 : Nat) : Int)) rfl (by kernel_rfl) (by kernel_rfl) (by kernel_rfl) (by kernel_rfl) (fun _ _ _ h => h) (Or.inl ⟨by rfl, ?_⟩) ?_
                · (intro w _; go_simp; (first | (rw [IntKind.wrap_i64]; omega) | skip); try with_reducible rfl)
                try simp only [Act.put, List.getElem_toArray, List.getElem_cons_succ, List.getElem_cons_zero, List.setIfInBounds_toArray, List.set_cons_zero, List.set_cons_succ]
                refine Reg.take0 (i := 7) (v := .slice ad (ln - (at_ + 1)) (cl - (at_ + 1))) rfl (by kernel_rfl) (by kernel_rfl) (by kernel_rfl) (by kernel_rfl) (fun _ _ _ h => h) (Or.inl ⟨by rfl, ?_⟩) ?_
                · (intro w _; go_simp; try (first | exact had.out | rw [had.out] | simp [had.out]); try with_reducible rfl)
                try simp only [Act.put, List.getElem_toArray, List.getElem_cons_succ, List.getElem_cons_zero, List.setIfInBounds_toArray, List.set_cons_zero, List.set_cons_succ]
                refine Reg.only (i := 8) (by kernel_rfl) rfl (fun K hK => ?_)
                rw [if_pos (by rfl)]
                refine wp_append_run (.tmp 139) (.tmp 143) 37 rfl _ _ _ rfl rfl hap ?_
                refine hK _ _ (fun _ hS => hS) ?_
                clear hK K
                try simp only [Act.put, List.getElem_toArray, List.getElem_cons_succ, List.getElem_cons_zero, List.setIfInBounds_toArray, List.set_cons_zero, List.set_cons_succ]
                refine Reg.take0 (i := 9) (v := ?_) rfl (by kernel_rfl) (by kernel_rfl) (by kernel_rfl) (by kernel_rfl) (fun _ _ _ h => h) (Or.inl ⟨by rfl, ?_⟩) ?_
                rotate_left
                · (intro w _; go_simp; try with_reducible rfl)
                try simp only [Act.put, List.getElem_toArray, List.getElem_cons_succ, List.getElem_cons_zero, List.setIfInBounds_toArray, List.set_cons_zero, List.set_cons_succ]
                refine Reg.done (by kernel_rfl) ?_ _
                clear hap
                clear cl0
                obtain ⟨gi, oi, rfl, -, ci0⟩ := (hT6.out.rows (.slice ai i ci, idsL i) (by simp)).1.at' (idsL_at hkN)
                by_cases hh : (n1 : Int) ≤ (kk : Int)
                · have hsb : sbm lh kk = true := by unfold sbm; rw [h1.out.1]; simp; omega
                  go_wp2_with fail
                  refine (submit_ok w6 (Lib.hid hT6.out.ring) (Lib.hid hP5.out.rg_) hr hrst (id := ((kk + 1 : Nat) : Int)) (Lib.hid (by rw [hrid.out]))).mono ?_
                  rintro e w7 ⟨rfl, hO7, R7, x7, bs7, hR7, hS7, hx7, hd7, hn7, hrows7, hrs7⟩
                  have hP7 : Hid (Ph3 ls lh w1.heap.size Pr6 w7 R7 rg i s Vl6 (.slice (some ⟨gi, oi, none⟩) i ci) u11 u12 (L.eraseIdx at_)) := Lib.hid (ph3_end hP5.out hkk.out hT6.out hO7 hR7 hS7 hrid.out hx7 hrows7 hrs7 (by rw [hsb]; rfl))
                  have hB7 : Hid (Below w.heap.size w w7) := Lib.hid (hB6.out.trans (hO7.belowN hB6.out.size fun j hj h => h (hT6.out.ring.low _ (Nat.lt_of_lt_of_le hj hb1s.out))))
                  clear hO7 hR7 hS7 hx7 hd7 hn7 hrows7 hrs7 hsb
                  go_wp2_with fail
                  refine (read_ok w7 (Lib.hid hP7.out.tri.ring) (Lib.hid hP7.out.rg_)).mono ?_; rintro e w8 ⟨a8, n8, c8, rfl, hO8, R8, tk8, rest8, hn8, h8a, h8b, h8c, hrow8, hR8, hS8, hrows8, hrs8, hin8⟩
                  obtain ⟨Vg9, w9, Pr9, hap3, hP9, hb9⟩ := ph3_read hP7.out (by have := hn'.out; omega) hO8 h8a h8b hrow8 hR8 hS8 hrows8 hrs8 hin8
                  have hB9 : Hid (Below w.heap.size w w9) := Lib.hid (by
                    have q := hB7.out.trans (hO8.belowN hB7.out.size fun j hj h => h (hP7.out.tri.ring.low _ (Nat.lt_of_lt_of_le hj hb1s.out)))
                    exact q.trans (hb9.mono hb1s.out))
                  have hap3 := Lib.hid hap3
                  have hP9 := Lib.hid hP9
                  have hh9 : Hid (∀ r, R8.rows.head? = some r → r.st = 0) := Lib.hid (by rw [hrows8]; exact h8c)
                  clear hO8 hn8 h8a h8b h8c hrow8 hR8 hS8 hrows8 hrs8 hin8 hb9
                  go_wp2_with (first | (at_builtin; refine wpList_plain rfl fun K hK => wp_append_run (.tmp 171) (.tmp 173) 32 rfl _ _ _ rfl rfl hap3.out (hK _ _ ?_)))
                  go_roundg (i - (k + 1))
                  case measure => rw [hg4.out]; omega
                  case rel => exact ⟨k + 1, _, Pr9, R8, _, Lib.hid rfl, hlt4, by go_num, hP9, Lib.hid (by rw [List.length_eraseIdx, if_pos hatL.out]; have := hLl.out; omega), hh9, hB9⟩
                · have hhl : kk < lh.length := by rw [h1.out.1]; omega
                  obtain ⟨y, hy⟩ : ∃ y, lh[kk]? = some y := ⟨_, List.getElem?_eq_getElem hhl⟩
                  obtain ⟨gh, oh, rfl, hch, hy256⟩ := h1.out.2.at hy
                  have hii1 : (kk : Int) < (n1 : Int) := by omega
                  have ch0 := (hB6.out.cell (World.block_lt_of_cell? _ _ hch)).trans hch
                  by_cases hm3 : 0 < y % 3
                  · have hsb : sbm lh kk = true := by unfold sbm; rw [h1.out.1]; simp [List.getD, hy]; omega
                    have hm3' : (0 : Int) < (y : Int) % 3 := by omega
                    clear hy hy256 hch
                    go_wp2_with fail
                    refine (submit_ok w6 (Lib.hid hT6.out.ring) (Lib.hid hP5.out.rg_) hr hrst (id := ((kk + 1 : Nat) : Int)) (Lib.hid (by rw [hrid.out]))).mono ?_
                    rintro e w7 ⟨rfl, hO7, R7, x7, bs7, hR7, hS7, hx7, hd7, hn7, hrows7, hrs7⟩
                    have hP7 : Hid (Ph3 ls lh w1.heap.size Pr6 w7 R7 rg i s Vl6 (.slice (some ⟨gi, oi, none⟩) i ci) u11 u12 (L.eraseIdx at_)) := Lib.hid (ph3_end hP5.out hkk.out hT6.out hO7 hR7 hS7 hrid.out hx7 hrows7 hrs7 (by rw [hsb]; rfl))
                    have hB7 : Hid (Below w.heap.size w w7) := Lib.hid (hB6.out.trans (hO7.belowN hB6.out.size fun j hj h => h (hT6.out.ring.low _ (Nat.lt_of_lt_of_le hj hb1s.out))))
                    clear hO7 hR7 hS7 hx7 hd7 hn7 hrows7 hrs7 hsb
                    go_wp2_with fail
                    refine (read_ok w7 (Lib.hid hP7.out.tri.ring) (Lib.hid hP7.out.rg_)).mono ?_; rintro e w8 ⟨a8, n8, c8, rfl, hO8, R8, tk8, rest8, hn8, h8a, h8b, h8c, hrow8, hR8, hS8, hrows8, hrs8, hin8⟩
                    obtain ⟨Vg9, w9, Pr9, hap3, hP9, hb9⟩ := ph3_read hP7.out (by have := hn'.out; omega) hO8 h8a h8b hrow8 hR8 hS8 hrows8 hrs8 hin8
                    have hB9 : Hid (Below w.heap.size w w9) := Lib.hid (by
                      have q := hB7.out.trans (hO8.belowN hB7.out.size fun j hj h => h (hP7.out.tri.ring.low _ (Nat.lt_of_lt_of_le hj hb1s.out)))
                      exact q.trans (hb9.mono hb1s.out))
                    have hap3 := Lib.hid hap3
                    have hP9 := Lib.hid hP9
                    have hh9 : Hid (∀ r, R8.rows.head? = some r → r.st = 0) := Lib.hid (by rw [hrows8]; exact h8c)
                    clear hO8 hn8 h8a h8b h8c hrow8 hR8 hS8 hrows8 hrs8 hin8 hb9
                    go_wp2_with (first | (at_builtin; refine wpList_plain rfl fun K hK => wp_append_run (.tmp 171) (.tmp 173) 32 rfl _ _ _ rfl rfl hap3.out (hK _ _ ?_)))
                    go_roundg (i - (k + 1))
                    case measure => rw [hg4.out]; omega
                    case rel => exact ⟨k + 1, _, Pr9, R8, _, Lib.hid rfl, hlt4, by go_num, hP9, Lib.hid (by rw [List.length_eraseIdx, if_pos hatL.out]; have := hLl.out; omega), hh9, hB9⟩
                  · have hsb : sbm lh kk = false := by unfold sbm; rw [h1.out.1]; simp [List.getD, hy]; omega
                    have hm3' : ¬ (0 : Int) < (y : Int) % 3 := by omega
                    clear hy hy256 hch
                    go_wp2_with fail
                    refine (discard_ok w6 (Lib.hid hT6.out.ring) (Lib.hid hP5.out.rg_) hr hrst (id := ((kk + 1 : Nat) : Int)) (Lib.hid (by rw [hrid.out]))).mono ?_
                    rintro e w7 ⟨rfl, hO7, R7, x7, bs7, hR7, hS7, hx7, hd7, hn7, hrows7, hrs7⟩
                    have hP7 : Hid (Ph3 ls lh w1.heap.size Pr6 w7 R7 rg i s Vl6 (.slice (some ⟨gi, oi, none⟩) i ci) u11 u12 (L.eraseIdx at_)) := Lib.hid (ph3_end hP5.out hkk.out hT6.out hO7 hR7 hS7 hrid.out hx7 hrows7 hrs7 (by rw [hsb]; rfl))
                    have hB7 : Hid (Below w.heap.size w w7) := Lib.hid (hB6.out.trans (hO7.belowN hB6.out.size fun j hj h => h (hT6.out.ring.low _ (Nat.lt_of_lt_of_le hj hb1s.out))))
                    clear hO7 hR7 hS7 hx7 hd7 hn7 hrows7 hrs7 hsb
                    go_wp2_with fail
                    refine (read_ok w7 (Lib.hid hP7.out.tri.ring) (Lib.hid hP7.out.rg_)).mono ?_; rintro e w8 ⟨a8, n8, c8, rfl, hO8, R8, tk8, rest8, hn8, h8a, h8b, h8c, hrow8, hR8, hS8, hrows8, hrs8, hin8⟩
                    obtain ⟨Vg9, w9, Pr9, hap3, hP9, hb9⟩ := ph3_read hP7.out (by have := hn'.out; omega) hO8 h8a h8b hrow8 hR8 hS8 hrows8 hrs8 hin8
                    have hB9 : Hid (Below w.heap.size w w9) := Lib.hid (by
                      have q := hB7.out.trans (hO8.belowN hB7.out.size fun j hj h => h (hP7.out.tri.ring.low _ (Nat.lt_of_lt_of_le hj hb1s.out)))
                      exact q.trans (hb9.mono hb1s.out))
                    have hap3 := Lib.hid hap3
                    have hP9 := Lib.hid hP9
                    have hh9 : Hid (∀ r, R8.rows.head? = some r → r.st = 0) := Lib.hid (by rw [hrows8]; exact h8c)
                    clear hO8 hn8 h8a h8b h8c hrow8 hR8 hS8 hrows8 hrs8 hin8 hb9
                    go_wp2_with (first | (at_builtin; refine wpList_plain rfl fun K hK => wp_append_run (.tmp 171) (.tmp 173) 32 rfl _ _ _ rfl rfl hap3.out (hK _ _ ?_)))
                    go_roundg (i - (k + 1))
                    case measure => rw [hg4.out]; omega
                    case rel => exact ⟨k + 1, _, Pr9, R8, _, Lib.hid rfl, hlt4, by go_num, hP9, Lib.hid (by rw [List.length_eraseIdx, if_pos hatL.out]; have := hLl.out; omega), hh9, hB9⟩
              · have hatL : Hid (0 < L.length) := Lib.hid (by rw [hln.out]; exact hln0)
                obtain ⟨kk, hkk⟩ : ∃ kk, L[0]? = some kk := ⟨_, List.getElem?_eq_getElem hatL.out⟩
                obtain ⟨gz, oz, hgz, -, cl0⟩ := (hP4.out.tri.rows _ (List.mem_cons_self ..)).1.at' (numL_at hkk)
                simp only [Nat.add_zero] at cl0
                simp only [Option.some.injEq, Addr.mk.injEq, and_true] at hgz
                obtain ⟨rfl, rfl⟩ := hgz
                have hkN : kk < i := hP4.out.nod.2 kk (List.mem_of_getElem? hkk)
                obtain ⟨r, hr, hrst, hrid⟩ := hP4.out.at (List.mem_of_getElem? hkk)
                have hr := Lib.hid hr
                have hrst_ := hrst
                clear hrst
                have hrst := Lib.hid hrst_
                clear hrst_
                have hrid_ := hrid
                clear hrid
                have hrid := Lib.hid hrid_
                clear hrid_
                have hkk_ := hkk
                clear hkk
                have hkk := Lib.hid hkk_
                clear hkk_
                obtain ⟨ad, had⟩ : ∃ ad, Hid ((if cl = 1 then some ⟨gl, ol, none⟩ else some ⟨gl, ol + 1, none⟩ : Option Addr) = ad) := ⟨_, Lib.hid rfl⟩
                have hatl : (0 : Int) < (ln : Int) := by have := hatL.out; have := hln.out; omega
                have hatl2 : (1 : Int) ≤ (ln : Int) := by omega
                have hatl3 : 0 < ln := by omega
                have hat0 : (0 : Int) ≤ (1 : Int) := by omega
                have hatl4 : 0 ≤ cl := by omega
                have hatc : (0 : Int) ≤ (cl : Int) := by omega
                have hkkN : (kk : Int) < (i : Int) := by omega
                go_wp2_with fail
                refine Reg.start (S := (fun _ => True)) (B := (fun _ => false)) (by kernel_rfl) ?_
                have hbd : Below wr.heap.size wr wr.drew := (Below.refl _ _).drew
                have hP5 := Lib.hid (hP4.out.below hbd)
                have hBd := Lib.hid (hB4.out.drew)
                clear hbd
                revert hP5 hBd
                generalize wr.drew = w5
                intro hP5 hBd
                obtain ⟨Vl6, w6, Pr6, hap, hb6, hT6⟩ := ph3_left hP5.out hatL.out (by have := hLl.out; have := hn'.out; omega) had.out
                rw [hln.out] at hap
                simp only [Nat.zero_add] at hap
                have hB6 := Lib.hid (hBd.out.trans (hb6.mono hb1s.out))
                have hT6 := Lib.hid hT6
                clear hb6
                refine Reg.take0 (i := 0) (v := ?_) rfl (by kernel_rfl) (by kernel_rfl) (by kernel_rfl) (by kernel_rfl) (fun _ _ _ h => h) (Or.inl ⟨by rfl, ?_⟩) ?_
                rotate_left
                · (intro w _; go_simp; try with_reducible rfl)
                try simp only [Act.put, List.getElem_toArray, List.getElem_cons_succ, List.getElem_cons_zero, List.setIfInBounds_toArray, List.set_cons_zero, List.set_cons_succ]
                refine Reg.take0 (i := 1) (v := ?_) rfl (by kernel_rfl) (by kernel_rfl) (by kernel_rfl) (by kernel_rfl) (fun _ _ _ h => h) (Or.inl ⟨by rfl, ?_⟩) ?_
                rotate_left
                · (intro w _; go_simp; try with_reducible rfl)
                try simp only [Act.put, List.getElem_toArray, List.getElem_cons_succ, List.getElem_cons_zero, List.setIfInBounds_toArray, List.set_cons_zero, List.set_cons_succ]
                refine Reg.take0 (i := 2) (v := ?_) rfl (by kernel_rfl) (by kernel_rfl) (by kernel_rfl) (by kernel_rfl) (fun _ _ _ h => h) (Or.inl ⟨by rfl, ?_⟩) ?_
                rotate_left
                · (intro w _; go_simp; try with_reducible rfl)
                try simp only [Act.put, List.getElem_toArray, List.getElem_cons_succ, List.getElem_cons_zero, List.setIfInBounds_toArray, List.set_cons_zero, List.set_cons_succ]
                refine Reg.take0 (i := 3) (v := .slice (some ⟨gl, ol, none⟩) 0 0) rfl (by kernel_rfl) (by kernel_rfl) (by kernel_rfl) (by kernel_rfl) (fun _ _ _ h => h) (Or.inl ⟨by rfl, ?_⟩) ?_
                · (intro w _; go_simp; try with_reducible rfl)
                try simp only [Act.put, List.getElem_toArray, List.getElem_cons_succ, List.getElem_cons_zero, List.setIfInBounds_toArray, List.set_cons_zero, List.set_cons_succ]
                refine Reg.take0 (i := 4) (v := ?_) rfl (by kernel_rfl) (by kernel_rfl) (by kernel_rfl) (by kernel_rfl) (fun _ _ _ h => h) (Or.inl ⟨by rfl, ?_⟩) ?_
                rotate_left
                · (intro w _; go_simp; try with_reducible rfl)
                try simp only [Act.put, List.getElem_toArray, List.getElem_cons_succ, List.getElem_cons_zero, List.setIfInBounds_toArray, List.set_cons_zero, List.set_cons_succ]
                refine Reg.take0 (i := 5) (v := ?_) rfl (by kernel_rfl) (by kernel_rfl) (by kernel_rfl) (by kernel_rfl) (fun _ _ _ h => h) (Or.inl ⟨by rfl, ?_⟩) ?_
                rotate_left
                · (intro w _; go_simp; try with_reducible rfl)
                try simp only [Act.put, List.getElem_toArray, List.getElem_cons_succ, List.getElem_cons_zero, List.setIfInBounds_toArray, List.set_cons_zero, List.set_cons_succ]
                refine Reg.take0 (i := 6) (v := .int .i64 ((1 : Nat) : Int)) rfl (by kernel_rfl) (by kernel_rfl) (by kernel_rfl) (by kernel_rfl) (fun _ _ _ h => h) (Or.inl ⟨by rfl, ?_⟩) ?_
                · (intro w _; go_simp; (first | (rw [IntKind.wrap_i64]; omega) | skip); try with_reducible rfl)
                try simp only [Act.put, List.getElem_toArray, List.getElem_cons_succ, List.getElem_cons_zero, List.setIfInBounds_toArray, List.set_cons_zero, List.set_cons_succ]
                refine Reg.take0 (i := 7) (v := .slice ad (ln - 1) (cl - 1)) rfl (by kernel_rfl) (by kernel_rfl) (by kernel_rfl) (by kernel_rfl) (fun _ _ _ h => h) (Or.inl ⟨by rfl, ?_⟩) ?_
                · (intro w _; go_simp; try (first | exact had.out | rw [had.out] | simp [had.out]); try with_reducible rfl)
                try simp only [Act.put, List.getElem_toArray, List.getElem_cons_succ, List.getElem_cons_zero, List.setIfInBounds_toArray, List.set_cons_zero, List.set_cons_succ]
                refine Reg.only (i := 8) (by kernel_rfl) rfl (fun K hK => ?_)
                rw [if_pos (by rfl)]
                refine wp_append_run (.tmp 139) (.tmp 143) 37 rfl _ _ _ rfl rfl hap ?_
                refine hK _ _ (fun _ hS => hS) ?_
                clear hK K
                try simp only [Act.put, List.getElem_toArray, List.getElem_cons_succ, List.getElem_cons_zero, List.setIfInBounds_toArray, List.set_cons_zero, List.set_cons_succ]
                refine Reg.take0 (i := 9) (v := ?_) rfl (by kernel_rfl) (by kernel_rfl) (by kernel_rfl) (by kernel_rfl) (fun _ _ _ h => h) (Or.inl ⟨by rfl, ?_⟩) ?_
                rotate_left
                · (intro w _; go_simp; try with_reducible rfl)
                try simp only [Act.put, List.getElem_toArray, List.getElem_cons_succ, List.getElem_cons_zero, List.setIfInBounds_toArray, List.set_cons_zero, List.set_cons_succ]
                refine Reg.done (by kernel_rfl) ?_ _
                clear hap
                clear cl0
                obtain ⟨gi, oi, rfl, -, ci0⟩ := (hT6.out.rows (.slice ai i ci, idsL i) (by simp)).1.at' (idsL_at hkN)
                by_cases hh : (n1 : Int) ≤ (kk : Int)
                · have hsb : sbm lh kk = true := by unfold sbm; rw [h1.out.1]; simp; omega
                  go_wp2_with fail
                  refine (submit_ok w6 (Lib.hid hT6.out.ring) (Lib.hid hP5.out.rg_) hr hrst (id := ((kk + 1 : Nat) : Int)) (Lib.hid (by rw [hrid.out]))).mono ?_
                  rintro e w7 ⟨rfl, hO7, R7, x7, bs7, hR7, hS7, hx7, hd7, hn7, hrows7, hrs7⟩
                  have hP7 : Hid (Ph3 ls lh w1.heap.size Pr6 w7 R7 rg i s Vl6 (.slice (some ⟨gi, oi, none⟩) i ci) u11 u12 (L.eraseIdx 0)) := Lib.hid (ph3_end hP5.out hkk.out hT6.out hO7 hR7 hS7 hrid.out hx7 hrows7 hrs7 (by rw [hsb]; rfl))
                  have hB7 : Hid (Below w.heap.size w w7) := Lib.hid (hB6.out.trans (hO7.belowN hB6.out.size fun j hj h => h (hT6.out.ring.low _ (Nat.lt_of_lt_of_le hj hb1s.out))))
                  clear hO7 hR7 hS7 hx7 hd7 hn7 hrows7 hrs7 hsb
                  go_wp2_with fail
                  refine (read_ok w7 (Lib.hid hP7.out.tri.ring) (Lib.hid hP7.out.rg_)).mono ?_; rintro e w8 ⟨a8, n8, c8, rfl, hO8, R8, tk8, rest8, hn8, h8a, h8b, h8c, hrow8, hR8, hS8, hrows8, hrs8, hin8⟩
                  obtain ⟨Vg9, w9, Pr9, hap3, hP9, hb9⟩ := ph3_read hP7.out (by have := hn'.out; omega) hO8 h8a h8b hrow8 hR8 hS8 hrows8 hrs8 hin8
                  have hB9 : Hid (Below w.heap.size w w9) := Lib.hid (by
                    have q := hB7.out.trans (hO8.belowN hB7.out.size fun j hj h => h (hP7.out.tri.ring.low _ (Nat.lt_of_lt_of_le hj hb1s.out)))
                    exact q.trans (hb9.mono hb1s.out))
                  have hap3 := Lib.hid hap3
                  have hP9 := Lib.hid hP9
                  have hh9 : Hid (∀ r, R8.rows.head? = some r → r.st = 0) := Lib.hid (by rw [hrows8]; exact h8c)
                  clear hO8 hn8 h8a h8b h8c hrow8 hR8 hS8 hrows8 hrs8 hin8 hb9
                  go_wp2_with (first | (at_builtin; refine wpList_plain rfl fun K hK => wp_append_run (.tmp 171) (.tmp 173) 32 rfl _ _ _ rfl rfl hap3.out (hK _ _ ?_)))
                  go_roundg (i - (k + 1))
                  case measure => rw [hg4.out]; omega
                  case rel => exact ⟨k + 1, _, Pr9, R8, _, Lib.hid rfl, hlt4, by go_num, hP9, Lib.hid (by rw [List.length_eraseIdx, if_pos hatL.out]; have := hLl.out; omega), hh9, hB9⟩
                · have hhl : kk < lh.length := by rw [h1.out.1]; omega
                  obtain ⟨y, hy⟩ : ∃ y, lh[kk]? = some y := ⟨_, List.getElem?_eq_getElem hhl⟩
                  obtain ⟨gh, oh, rfl, hch, hy256⟩ := h1.out.2.at hy
                  have hii1 : (kk : Int) < (n1 : Int) := by omega
                  have ch0 := (hB6.out.cell (World.block_lt_of_cell? _ _ hch)).trans hch
                  by_cases hm3 : 0 < y % 3
                  · have hsb : sbm lh kk = true := by unfold sbm; rw [h1.out.1]; simp [List.getD, hy]; omega
                    have hm3' : (0 : Int) < (y : Int) % 3 := by omega
                    clear hy hy256 hch
                    go_wp2_with fail
                    refine (submit_ok w6 (Lib.hid hT6.out.ring) (Lib.hid hP5.out.rg_) hr hrst (id := ((kk + 1 : Nat) : Int)) (Lib.hid (by rw [hrid.out]))).mono ?_
                    rintro e w7 ⟨rfl, hO7, R7, x7, bs7, hR7, hS7, hx7, hd7, hn7, hrows7, hrs7⟩
                    have hP7 : Hid (Ph3 ls lh w1.heap.size Pr6 w7 R7 rg i s Vl6 (.slice (some ⟨gi, oi, none⟩) i ci) u11 u12 (L.eraseIdx 0)) := Lib.hid (ph3_end hP5.out hkk.out hT6.out hO7 hR7 hS7 hrid.out hx7 hrows7 hrs7 (by rw [hsb]; rfl))
                    have hB7 : Hid (Below w.heap.size w w7) := Lib.hid (hB6.out.trans (hO7.belowN hB6.out.size fun j hj h => h (hT6.out.ring.low _ (Nat.lt_of_lt_of_le hj hb1s.out))))
                    clear hO7 hR7 hS7 hx7 hd7 hn7 hrows7 hrs7 hsb
                    go_wp2_with fail
                    refine (read_ok w7 (Lib.hid hP7.out.tri.ring) (Lib.hid hP7.out.rg_)).mono ?_; rintro e w8 ⟨a8, n8, c8, rfl, hO8, R8, tk8, rest8, hn8, h8a, h8b, h8c, hrow8, hR8, hS8, hrows8, hrs8, hin8⟩
                    obtain ⟨Vg9, w9, Pr9, hap3, hP9, hb9⟩ := ph3_read hP7.out (by have := hn'.out; omega) hO8 h8a h8b hrow8 hR8 hS8 hrows8 hrs8 hin8
                    have hB9 : Hid (Below w.heap.size w w9) := Lib.hid (by
                      have q := hB7.out.trans (hO8.belowN hB7.out.size fun j hj h => h (hP7.out.tri.ring.low _ (Nat.lt_of_lt_of_le hj hb1s.out)))
                      exact q.trans (hb9.mono hb1s.out))
                    have hap3 := Lib.hid hap3
                    have hP9 := Lib.hid hP9
                    have hh9 : Hid (∀ r, R8.rows.head? = some r → r.st = 0) := Lib.hid (by rw [hrows8]; exact h8c)
                    clear hO8 hn8 h8a h8b h8c hrow8 hR8 hS8 hrows8 hrs8 hin8 hb9
                    go_wp2_with (first | (at_builtin; refine wpList_plain rfl fun K hK => wp_append_run (.tmp 171) (.tmp 173) 32 rfl _ _ _ rfl rfl hap3.out (hK _ _ ?_)))
                    go_roundg (i - (k + 1))
                    case measure => rw [hg4.out]; omega
                    case rel => exact ⟨k + 1, _, Pr9, R8, _, Lib.hid rfl, hlt4, by go_num, hP9, Lib.hid (by rw [List.length_eraseIdx, if_pos hatL.out]; have := hLl.out; omega), hh9, hB9⟩
                  · have hsb : sbm lh kk = false := by unfold sbm; rw [h1.out.1]; simp [List.getD, hy]; omega
                    have hm3' : ¬ (0 : Int) < (y : Int) % 3 := by omega
                    clear hy hy256 hch
                    go_wp2_with fail
                    refine (discard_ok w6 (Lib.hid hT6.out.ring) (Lib.hid hP5.out.rg_) hr hrst (id := ((kk + 1 : Nat) : Int)) (Lib.hid (by rw [hrid.out]))).mono ?_
                    rintro e w7 ⟨rfl, hO7, R7, x7, bs7, hR7, hS7, hx7, hd7, hn7, hrows7, hrs7⟩
                    have hP7 : Hid (Ph3 ls lh w1.heap.size Pr6 w7 R7 rg i s Vl6 (.slice (some ⟨gi, oi, none⟩) i ci) u11 u12 (L.eraseIdx 0)) := Lib.hid (ph3_end hP5.out hkk.out hT6.out hO7 hR7 hS7 hrid.out hx7 hrows7 hrs7 (by rw [hsb]; rfl))
                    have hB7 : Hid (Below w.heap.size w w7) := Lib.hid (hB6.out.trans (hO7.belowN hB6.out.size fun j hj h => h (hT6.out.ring.low _ (Nat.lt_of_lt_of_le hj hb1s.out))))
                    clear hO7 hR7 hS7 hx7 hd7 hn7 hrows7 hrs7 hsb
                    go_wp2_with fail
                    refine (read_ok w7 (Lib.hid hP7.out.tri.ring) (Lib.hid hP7.out.rg_)).mono ?_; rintro e w8 ⟨a8, n8, c8, rfl, hO8, R8, tk8, rest8, hn8, h8a, h8b, h8c, hrow8, hR8, hS8, hrows8, hrs8, hin8⟩
                    obtain ⟨Vg9, w9, Pr9, hap3, hP9, hb9⟩ := ph3_read hP7.out (by have := hn'.out; omega) hO8 h8a h8b hrow8 hR8 hS8 hrows8 hrs8 hin8
                    have hB9 : Hid (Below w.heap.size w w9) := Lib.hid (by
                      have q := hB7.out.trans (hO8.belowN hB7.out.size fun j hj h => h (hP7.out.tri.ring.low _ (Nat.lt_of_lt_of_le hj hb1s.out)))
                      exact q.trans (hb9.mono hb1s.out))
                    have hap3 := Lib.hid hap3
                    have hP9 := Lib.hid hP9
                    have hh9 : Hid (∀ r, R8.rows.head? = some r → r.st = 0) := Lib.hid (by rw [hrows8]; exact h8c)
                    clear hO8 hn8 h8a h8b h8c hrow8 hR8 hS8 hrows8 hrs8 hin8 hb9
                    go_wp2_with (first | (at_builtin; refine wpList_plain rfl fun K hK => wp_append_run (.tmp 171) (.tmp 173) 32 rfl _ _ _ rfl rfl hap3.out (hK _ _ ?_)))
                    go_roundg (i - (k + 1))
                    case measure => rw [hg4.out]; omega
                    case rel => exact ⟨k + 1, _, Pr9, R8, _, Lib.hid rfl, hlt4, by go_num, hP9, Lib.hid (by rw [List.length_eraseIdx, if_pos hatL.out]; have := hLl.out; omega), hh9, hB9⟩
            · have hki4 : i = k := by omega
              subst hki4
              obtain rfl : L = [] := List.eq_nil_of_length_eq_zero (by rw [hLl.out]; omega)
              obtain ⟨hrows0, hs0⟩ := ph3_done hP4.out hh4.out
              subst hs0
              obtain ⟨xs, us, ht⟩ := hP4.out.tri.two
              obtain ⟨va, vc, hva⟩ := ht.row.len
              obtain ⟨ua, uc, hua⟩ := ht.row2.len
              obtain ⟨nn, hnn⟩ : ∃ nn, xs.length = nn := ⟨_, rfl⟩
              have hun : us.length = nn := by rw [← hnn, ht.sl.1, ht.sl2.1]
              have hnn40 : nn < 2 ^ 40 := by rw [← hnn, ht.sl.1]; have := wantC_len ls lh s; have := hn'.out; omega
              rw [hnn] at hva
              rw [hun] at hua
              rw [hva, hua] at ht
              subst hva
              subst hua
              have ht := Lib.hid ht
              have hnn' := Lib.hid (And.intro hnn hnn40)
              have hrows0 := Lib.hid hrows0
              clear hun hnn hnn40
              go_wp2_with fail
              refine (f18_ok wr (Lib.hid ht.out.row) (Lib.hid ht.out.row2) hnn' (Lib.hid ht.out.sl) (Lib.hid ht.out.sl2)).mono ?_; rintro e w5 ⟨rfl, hb5'⟩
              have hR5 : Hid (RingAt w1.heap.size Pr4 w5 R4) := Lib.hid (hP4.out.tri.ring.below hb5')
              have hB5 : Hid (Below w.heap.size w w5) := Lib.hid (hB4.out.trans (hb5'.mono hB4.out.size))
              clear hb5'
              go_wp2_with fail
              refine (used_ok w5 hR5 (Lib.hid hP4.out.rg_)).mono ?_; rintro e w6 ⟨rfl, rfl⟩
              rw [hrows0.out]
              have h23 := f23_ok w5 hR5
              rw [hP4.out.rg_, hrows0.out] at h23
              have h23 := Lib.hid h23
              go_wp2_with fail
              refine h23.out.mono ?_; rintro e w6 ⟨V6, rfl, hV6, hb6⟩
              obtain ⟨a6, c6, rfl⟩ : ∃ a c, V6 = .slice a 0 c := hV6.len
              have hB6 : Hid (Below w.heap.size w w6) := Lib.hid (hB5.out.trans (hb6.mono hB5.out.size))
              clear hb6 hV6
              go_wp2_with fail
              go_ret
              exact ⟨rfl, hB6.out⟩
set_option maxRecDepth 100000 in
set_option maxHeartbeats 2000000 in
theorem order_no (w : World) {n0 c0 n1 c1 n2 c2 : Nat} {a0 a1 a2 : Option Addr} (hn : Hid (20 < n0)) :
    Calls Try.prog 5 #[.slice a0 n0 c0, .slice a1 n1 c1, .slice a2 n2 c2] w fun e w' => e = .returned (.bool true) ∧ Below w.heap.size w w' := by
  have h1 : 20 < (n0 : Int) := by have := hn.out; omega
  go_enter Try.func5, Try.ntmps5
  go_wp2_with fail
  refine (f12_ok w).mono ?_; rintro e w1 ⟨rfl, hb1⟩
  have hb1_ := hb1
  clear hb1
  have hb1 := Lib.hid hb1_
  clear hb1_
  go_wp2_with fail
  go_ret
  exact ⟨rfl, hb1.out⟩
theorem ringOrder_walk (a0 : Option Addr) (n0 c0 : Nat) (a1 : Option Addr) (n1 c1 : Nat) (a2 : Option Addr) (n2 c2 : Nat) (w : World) {ls lh lt : List Nat} (h0 : ls.length = n0 ∧ SlB w.heap.size (· < w.heap.size) w (.slice a0 n0 c0) ls) (h1 : lh.length = n1 ∧ SlB w.heap.size (· < w.heap.size) w (.slice a1 n1 c1) lh) (h2 : lt.length = n2 ∧ SlB w.heap.size (· < w.heap.size) w (.slice a2 n2 c2) lt) :
    Calls Try.prog 5 #[.slice a0 n0 c0, .slice a1 n1 c1, .slice a2 n2 c2] w fun e w' => e = .returned (.bool true) ∧ Below w.heap.size w w' := by
  by_cases h : n0 ≤ 20
  · exact order w h (Lib.hid h0) (Lib.hid h1) (Lib.hid h2)
  · exact order_no w (Lib.hid (by omega))
end Go.Proofs.Ytmjeloinibembaa
