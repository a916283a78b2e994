/-
  RegionEnds: the walk of the law.
-/
import Derived.Test.YtmjeloinibembaaKn8
namespace Go.Proofs.Ytmjeloinibembaa
open Go.RowKit
set_option linter.unusedVariables false
set_option linter.unusedSimpArgs false
theorem RegAt.kill {w : World} {rb bb : Nat} {d wr : Bool} {n : Nat} {f : Nat → Nat} (h : RegAt w rb bb d wr n f) : RegAt (w.setCell ⟨rb, 0, none⟩ (.bool true)) rb bb true wr n f :=
  ⟨cell_same _ h.dead, h.sl.imp fun c hc => ⟨hc.1, by rw [cell_ne _ (.inr (by decide))]; exact hc.2⟩, by rw [cell_ne _ (.inr (by decide))]; exact h.write, by rw [cell_ne _ (.inr (by decide))]; exact h.hidden,
    fun i hi => by rw [cell_ne _ (.inl h.ne)]; exact h.bts i hi, h.thawR.setCell _ _, h.thaw.setCell _ _, h.byte, by simpa using h.lt, h.ne, h.kR.setCell _ _, h.kB.setCell _ _, h.small⟩
theorem reg_dead {B : Nat} {w : World} {mb : Nat} {v : Value} {l : List (Bool × Nat)} (M : Hid (MemRow B w mb v l)) {i : Int} {j : Nat} (hij : Hid (i = j + 1)) {rb bb n : Nat} {wr : Bool} {f : Nat → Nat} (hR : Hid (RegAt w rb bb true wr n f)) (hx : Hid (l[j]? = some (false, rb))) (k off : Int) (nv : Value) :
    Hid (∀ w', Below w.heap.size w w' → Calls Try.prog 58 #[.pointer (some ⟨mb, 0, none⟩), .agg #[.int .i64 5, nv, .int .i64 i, .int .i64 off], .int .i64 k] w' fun e w'' => e = .returned (.tuple #[.nilIface, .int .i64 0, .int .i64 4]) ∧ Below w'.heap.size w' w'') := by
  obtain ⟨ab, hT⟩ := mem_tab M hij hx.out
  exact Lib.hid fun w' hb => f58_dead w' (Lib.hid ((hT.out.below hx.out).out w' hb)) hij hx (Lib.hid ((cell_below hR.out.dead).out w' hb)) 5 (Lib.hid rfl) nv off k
theorem kill_reg {B : Nat} {w : World} {mb : Nat} {v : Value} {l : List (Bool × Nat)} (M : Hid (MemRow B w mb v l)) {i : Int} {j : Nat} (hij : Hid (i = j + 1)) {rb bb n : Nat} {d wr : Bool} {f : Nat → Nat} (hR : Hid (RegAt w rb bb d wr n f)) (hx : Hid (l[j]? = some (false, rb))) :
    Calls Try.prog 45 #[.pointer (some ⟨mb, 0, none⟩), .int .i64 i] w fun e w' => e = .returned (.bool (!d)) ∧ Only (· = rb) w w' ∧ RegAt w' rb bb true wr n f ∧ MemRow B w' mb v l := by
  obtain ⟨ab, hT⟩ := mem_tab M hij hx.out
  refine (f45_ok w hT hij.out hx.out d hR.out.dead (hR.out.thawR 0)).mono ?_
  rintro e w' ⟨rfl, rfl⟩
  have hO : Only (· = rb) w (w.setCell ⟨rb, 0, none⟩ (.bool true)) := Only.setCell (S := (· = rb)) (Only.refl _ _) (fun _ => rfl) _
  exact ⟨rfl, hO, hR.out.kill, M.out.keep hO (fun k hk => ⟨95, by simp, hk ▸ hR.out.kR⟩)⟩
set_option maxRecDepth 100000 in
set_option maxHeartbeats 8000000 in
theorem ends_no (a0 a1 a2 : Int) (a3 : Bool) (w : World) (h1 : a2 ≠ 1) (h2 : a2 ≠ 2) (h4 : a2 ≠ 4) (h8 : a2 ≠ 8) :
    Calls Try.prog 10 #[.int .i64 a0, .int .i64 a1, .int .i64 a2, .bool a3] w fun e w' => e = .returned (.bool true) ∧ Below w.heap.size w w' := by
  have b1 : (a2 != 1) = true := by simpa using h1
  have b2 : (a2 != 2) = true := by simpa using h2
  have b4 : (a2 != 4) = true := by simpa using h4
  have b8 : (a2 != 8) = true := by simpa using h8
  clear h1 h2 h4 h8
  go_enter Try.func10, Try.ntmps10
  go_wp2_with fail
  refine (f39_ok w).mono ?_; rintro e w1 ⟨rfl, hb1⟩
  go_wp2_with fail
  all_goals (go_ret; exact ⟨rfl, hb1⟩)
set_option maxRecDepth 100000 in
set_option maxHeartbeats 8000000 in
theorem ends_1 (a0 a1 : Int) (a3 : Bool) (w : World) :
    Calls Try.prog 10 #[.int .i64 a0, .int .i64 a1, .int .i64 1, .bool a3] w fun e w' => e = .returned (.bool true) ∧ Below w.heap.size w w' := by
  go_enter Try.func10, Try.ntmps10
  go_wp2_with fail
  refine (f39_ok w).mono ?_; rintro e w1 ⟨rfl, hb1⟩
  have hb1' := Lib.hid hb1
  go_wp2_with fail
  all_goals try (go_ret; exact ⟨rfl, hb1⟩)
  clear hb1
  have hn300 : Hid (0 ≤ a0 ∧ a0 ≤ 300 ∧ -400 ≤ a1 ∧ a1 ≤ 400) := Lib.hid (by omega)
  refine (f14_ok w1).mono ?_; rintro e w2 ⟨rfl, hw2⟩
  have hM2 : Hid (MemRow w1.heap.size w2 w1.heap.size (.slice none 0 0) []) := Lib.hid (hw2 ▸ MemRow.new w1)
  have hb2 : Hid (Below w1.heap.size w1 w2) := Lib.hid (hw2 ▸ Below.one _)
  clear hw2
  obtain ⟨n, hn⟩ : ∃ n : Nat, Hid (a0 = n) := ⟨a0.toNat, Lib.hid (by have := hn300.out; omega)⟩
  obtain ⟨w3, hmk, hbt, hth, hk5, hb3, hlt⟩ := make_bytes w2 (n := n) (by have := hn.out; have := hn300.out; omega) hn.out
  have hBT := Lib.hid hbt
  have hM3 := Lib.hid (hM2.out.below hb3)
  have hB3 : Hid (Below w1.heap.size w1 w3) := Lib.hid (below_then hb2.out hb3)
  clear hbt hth hk5 hb3 hlt
  go_wp2_with fail
  refine (f43_ok w1.heap.size w3 hM3 (Lib.hid (by decide)) (Lib.hid hB3.out.size) hBT (Lib.hid (by have := hn.out; have := hn300.out; omega)) (Lib.hid fun i hi => by decide) a3).mono ?_; rintro e w4 ⟨rb, bb, v4, rfl, M4, R4, hrb, hbb, O4⟩
  have hM4 := Lib.hid M4
  have hR4 := Lib.hid R4
  have hB4 : Hid (Below w1.heap.size w1 w4) := Lib.hid (hB3.out.trans (O4.belowN hB3.out.size (fun k hk he => by
    rcases he with rfl | he
    · omega
    · simp [Value.ownBlock] at he)))
  have hrb' : Hid (w1.heap.size ≤ rb ∧ w1.heap.size ≤ bb) := Lib.hid (by have := hB3.out.size; omega)
  clear M4 R4 O4 hmk hrb hbb
  have hM5 : Hid (∀ o, MemRow w1.heap.size (w4.alloc o) w1.heap.size v4 ([] ++ [(false, rb)])) := Lib.hid fun o => hM4.out.below (Below.one o)
  have hR5 : Hid (∀ o, RegAt (w4.alloc o) rb bb false a3 n (fun _ => 0)) := Lib.hid fun o => hR4.out.below.out _ (Below.one o)
  have hP5 : Hid (Box (w4.alloc (.cells #[.int .i64 5, .int .u64 0, .int .i64 1, .int .i64 a1] 63)) w4.heap.size (.int .i64 5) (.int .u64 0) (.int .i64 1) (.int .i64 a1)) := Lib.hid Box.new
  have hne : Hid (w4.heap.size ≠ bb ∧ w4.heap.size ≠ rb) := Lib.hid (by have := hR4.out.lt; have := hR4.out.ltR; omega)
  obtain ⟨W, hW⟩ : ∃ W, Hid (w4.alloc (.cells #[.int .i64 5, .int .u64 0, .int .i64 1, .int .i64 a1] 63) = W) := ⟨_, Lib.hid rfl⟩
  rw [hW.out] at hP5
  have hM6 := Lib.hid (hW.out ▸ hM5.out _)
  have hR6 := Lib.hid (hW.out ▸ hR5.out _)
  have hB6 : Hid (Below w1.heap.size w1 W) := Lib.hid (hW.out ▸ below_then hB4.out (Below.one _))
  clear hM5 hR5
  by_cases hin : 0 ≤ a1 ∧ a1 + 1 ≤ n
  · obtain ⟨o, ho⟩ : ∃ o : Nat, a1 = o := ⟨a1.toNat, by omega⟩
    subst ho
    have hn' := hn.out
    subst hn'
    have hok : Hid (o + 1 ≤ n) := Lib.hid (by omega)
    have i1 : ((o : Int) + 1) ≤ n := by omega
    have i2 : wrap64 ((o : Int) + 1) = o + 1 := by unfold wrap64; have := hn300.out; omega
    have i3 : (0 : Int) ≤ o := by omega
    clear hin
    go_wp2_with fail
    rw [hW.out]
    refine (ld_reg hM6 (i := 1) (j := 0) (Lib.hid (by decide)) hR6 (Lib.hid rfl) (o := o) (k := 1) (Lib.hid (by decide)) (.int .u64 0) hok).mono ?_; rintro e w5 ⟨rfl, hb5⟩
    have hQ : ∀ o, Box (w5.alloc o) w4.heap.size _ _ _ _ := fun o => hP5.out.below (below_then hb5 (Below.one o))
    have p0 := fun o => (hQ o).c0
    have p1 := fun o => (hQ o).c1
    have p2 := fun o => (hQ o).c2
    have p3 := fun o => (hQ o).c3
    clear hQ
    have hM7 : Hid (∀ ob, MemRow w1.heap.size (w5.alloc ob) w1.heap.size v4 ([] ++ [(false, rb)])) := Lib.hid fun ob => hM6.out.below (below_then hb5 (Below.one ob))
    have hR7 : Hid (∀ ob, RegAt (w5.alloc ob) rb bb false a3 n (fun _ => 0)) := Lib.hid fun ob => hR6.out.below.out _ (below_then hb5 (Below.one ob))
    have hP7 : Hid (∀ ob, Box (w5.alloc ob) w4.heap.size (.int .i64 5) (.int .u64 0) (.int .i64 1) (.int .i64 o)) := Lib.hid fun ob => hP5.out.below (below_then hb5 (Below.one ob))
    have hB7 : Hid (∀ ob, Below w1.heap.size w1 (w5.alloc ob)) := Lib.hid fun ob => below_then hB6.out (below_then hb5 (Below.one ob))
    clear hb5
    go_wp2_with fail
    refine (st_reg (Lib.hid (hM7.out _)) (i := 1) (j := 0) (Lib.hid (by decide)) (Lib.hid (hR7.out _)) (Lib.hid rfl) (o := o) (k := 1) (Lib.hid (by decide)) (.int .u64 0) hok (x := 7) (by decide) 0 0).mono ?_; rintro e w6 ⟨rfl, O6, R6, M6⟩
    clear p0 p1 p2 p3
    have hP8 : Hid (Box w6 w4.heap.size (.int .i64 5) (.int .u64 0) (.int .i64 1) (.int .i64 o)) := Lib.hid ((hP7.out _).only O6 hne.out.1)
    have hB8 : Hid (Below w1.heap.size w1 w6) := Lib.hid ((hB7.out _).trans (O6.belowN (hB7.out _).size (fun k hk he => by have := hrb'.out; omega)))
    have hM8 := Lib.hid M6
    clear M6 O6
    cases a3
    all_goals
      simp only [Bool.false_eq_true, if_true, if_false] at R6 ⊢
      have hR8 := Lib.hid R6
      clear R6
      go_wp2_with fail
      refine (kill_reg hM8 (i := 1) (j := 0) (Lib.hid (by decide)) hR8 (Lib.hid rfl)).mono ?_; rintro e w7 ⟨rfl, O7, R7, M7⟩
      have hP9 : Hid (Box w7 w4.heap.size (.int .i64 5) (.int .u64 0) (.int .i64 1) (.int .i64 o)) := Lib.hid (hP8.out.only O7 hne.out.2)
      have hB9 : Hid (Below w1.heap.size w1 w7) := Lib.hid (hB8.out.trans (O7.belowN hB8.out.size (fun k hk he => by have := hrb'.out; omega)))
      have hM9 := Lib.hid M7
      have hR9 := Lib.hid R7
      clear M7 O7 R7
      go_wp2_with fail
      refine (kill_reg hM9 (i := 1) (j := 0) (Lib.hid (by decide)) hR9 (Lib.hid rfl)).mono ?_; rintro e w8 ⟨rfl, O8, R8, M8⟩
      have hP10 : Hid (Box w8 w4.heap.size (.int .i64 5) (.int .u64 0) (.int .i64 1) (.int .i64 o)) := Lib.hid (hP9.out.only O8 hne.out.2)
      have hB10 : Hid (Below w1.heap.size w1 w8) := Lib.hid (hB9.out.trans (O8.belowN hB9.out.size (fun k hk he => by have := hrb'.out; omega)))
      have hM10 := Lib.hid M8
      have hR10 := Lib.hid R8
      clear M8 O8 R8
      have p0 := hP10.out.c0
      have p1 := hP10.out.c1
      have p2 := hP10.out.c2
      have p3 := hP10.out.c3
      go_wp2_with fail
      refine (f42_fail w8 5 (Lib.hid (.inr rfl)) (.int .u64 0) o 1 4 (Lib.hid (by decide)) (by decide) (reg_dead hM10 (i := 1) (j := 0) (Lib.hid (by decide)) hR10 (Lib.hid rfl) 1 o (.int .u64 0))).mono ?_; rintro e w9 ⟨rfl, hb9⟩
      clear p0 p1 p2 p3
      have p0 := (hP10.out.below hb9).c0
      have p1 := (hP10.out.below hb9).c1
      have p2 := (hP10.out.below hb9).c2
      have p3 := (hP10.out.below hb9).c3
      have hM11 := Lib.hid (hM10.out.below hb9)
      have hR11 := Lib.hid (hR10.out.below.out _ hb9)
      have hB11 := Lib.hid (below_then hB10.out hb9)
      clear hb9
      go_wp2_with fail
      refine (f41_fail w9 5 (Lib.hid (.inr rfl)) (.int .u64 0) o 1 4 (Lib.hid (by decide)) (by decide) 1 0 0 0 (by decide) (reg_dead hM11 (i := 1) (j := 0) (Lib.hid (by decide)) hR11 (Lib.hid rfl) 1 o (.int .u64 0))).mono ?_; rintro e w10 ⟨rfl, hb10⟩
      go_wp2_with fail
      go_ret
      exact ⟨rfl, below_then hb1'.out (below_then hB11.out hb10)⟩
  · have hAT : ∃ t, t = a1 := ⟨_, rfl⟩
    have hout : Hid (a1 < 0 ∨ (n : Int) - a1 < (1 : Nat)) := Lib.hid (by omega)
    have hn' := hn.out
    subst hn'
    have hw : Hid (-(2 : Int) ^ 40 ≤ a1 ∧ a1 ≤ 2 ^ 40) := Lib.hid (by have := hn300.out; omega)
    have i2 : wrap64 (a1 + 1) = a1 + 1 := by have := hw.out; unfold wrap64; omega
    by_cases hs : 0 ≤ a1
    all_goals
      have i1 : 0 ≤ a1 → ¬ (a1 + 1 ≤ n) := fun h0 h1 => hin ⟨h0, h1⟩
      first | (have i1' := i1 hs; clear i1) | clear i1
      clear hin
      go_wp2_with fail
      rw [hW.out]
      refine (f42_fail W 5 (Lib.hid (.inr rfl)) (.int .u64 0) a1 1 3 (Lib.hid (by decide)) (by decide) (reg_out hM6 (i := 1) (j := 0) (Lib.hid (by decide)) hR6 (Lib.hid rfl) (k := 1) (Lib.hid (by decide)) (.int .u64 0) hout)).mono ?_; rintro e w5 ⟨rfl, hb5⟩
      have p0 := fun o => (hP5.out.below (below_then hb5 (Below.one o))).c0
      have p1 := fun o => (hP5.out.below (below_then hb5 (Below.one o))).c1
      have p2 := fun o => (hP5.out.below (below_then hb5 (Below.one o))).c2
      have p3 := fun o => (hP5.out.below (below_then hb5 (Below.one o))).c3
      have hM7 : Hid (∀ ob, MemRow w1.heap.size (w5.alloc ob) w1.heap.size v4 ([] ++ [(false, rb)])) := Lib.hid fun ob => hM6.out.below (below_then hb5 (Below.one ob))
      have hR7 : Hid (∀ ob, RegAt (w5.alloc ob) rb bb false a3 n (fun _ => 0)) := Lib.hid fun ob => hR6.out.below.out _ (below_then hb5 (Below.one ob))
      have hP7 : Hid (∀ ob, Box (w5.alloc ob) w4.heap.size (.int .i64 5) (.int .u64 0) (.int .i64 1) (.int .i64 a1)) := Lib.hid fun ob => hP5.out.below (below_then hb5 (Below.one ob))
      have hB7 : Hid (∀ ob, Below w1.heap.size w1 (w5.alloc ob)) := Lib.hid fun ob => below_then hB6.out (below_then hb5 (Below.one ob))
      clear hb5
      go_wp2_with fail
      refine (f41_fail _ 5 (Lib.hid (.inr rfl)) (.int .u64 0) a1 1 3 (Lib.hid (by decide)) (by decide) 1 7 0 0 (by decide) (reg_out (Lib.hid (hM7.out _)) (i := 1) (j := 0) (Lib.hid (by decide)) (Lib.hid (hR7.out _)) (Lib.hid rfl) (k := 1) (Lib.hid (by decide)) (.int .u64 0) hout)).mono ?_; rintro e w6 ⟨rfl, hb6⟩
      clear p0 p1 p2 p3
      have hP8 : Hid (Box w6 w4.heap.size (.int .i64 5) (.int .u64 0) (.int .i64 1) (.int .i64 a1)) := Lib.hid ((hP7.out _).below hb6)
      have hB8 : Hid (Below w1.heap.size w1 w6) := Lib.hid (below_then (hB7.out _) hb6)
      have hM8 := Lib.hid ((hM7.out _).below hb6)
      have hR8 := Lib.hid ((hR7.out _).below.out _ hb6)
      clear hb6
      go_wp2_with fail
      refine (kill_reg hM8 (i := 1) (j := 0) (Lib.hid (by decide)) hR8 (Lib.hid rfl)).mono ?_; rintro e w7 ⟨rfl, O7, R7, M7⟩
      have hP9 : Hid (Box w7 w4.heap.size (.int .i64 5) (.int .u64 0) (.int .i64 1) (.int .i64 a1)) := Lib.hid (hP8.out.only O7 hne.out.2)
      have hB9 : Hid (Below w1.heap.size w1 w7) := Lib.hid (hB8.out.trans (O7.belowN hB8.out.size (fun k hk he => by have := hrb'.out; omega)))
      have hM9 := Lib.hid M7
      have hR9 := Lib.hid R7
      clear M7 O7 R7
      go_wp2_with fail
      refine (kill_reg hM9 (i := 1) (j := 0) (Lib.hid (by decide)) hR9 (Lib.hid rfl)).mono ?_; rintro e w8 ⟨rfl, O8, R8, M8⟩
      have hP10 : Hid (Box w8 w4.heap.size (.int .i64 5) (.int .u64 0) (.int .i64 1) (.int .i64 a1)) := Lib.hid (hP9.out.only O8 hne.out.2)
      have hB10 : Hid (Below w1.heap.size w1 w8) := Lib.hid (hB9.out.trans (O8.belowN hB9.out.size (fun k hk he => by have := hrb'.out; omega)))
      have hM10 := Lib.hid M8
      have hR10 := Lib.hid R8
      clear M8 O8 R8
      have p0 := hP10.out.c0
      have p1 := hP10.out.c1
      have p2 := hP10.out.c2
      have p3 := hP10.out.c3
      go_wp2_with fail
      refine (f42_fail w8 5 (Lib.hid (.inr rfl)) (.int .u64 0) a1 1 4 (Lib.hid (by decide)) (by decide) (reg_dead hM10 (i := 1) (j := 0) (Lib.hid (by decide)) hR10 (Lib.hid rfl) 1 a1 (.int .u64 0))).mono ?_; rintro e w9 ⟨rfl, hb9⟩
      clear p0 p1 p2 p3
      have p0 := (hP10.out.below hb9).c0
      have p1 := (hP10.out.below hb9).c1
      have p2 := (hP10.out.below hb9).c2
      have p3 := (hP10.out.below hb9).c3
      have hM11 := Lib.hid (hM10.out.below hb9)
      have hR11 := Lib.hid (hR10.out.below.out _ hb9)
      have hB11 := Lib.hid (below_then hB10.out hb9)
      clear hb9
      go_wp2_with fail
      refine (f41_fail w9 5 (Lib.hid (.inr rfl)) (.int .u64 0) a1 1 4 (Lib.hid (by decide)) (by decide) 1 0 0 0 (by decide) (reg_dead hM11 (i := 1) (j := 0) (Lib.hid (by decide)) hR11 (Lib.hid rfl) 1 a1 (.int .u64 0))).mono ?_; rintro e w10 ⟨rfl, hb10⟩
      go_wp2_with fail
      go_ret
      exact ⟨rfl, below_then hb1'.out (below_then hB11.out hb10)⟩

set_option maxRecDepth 100000 in
set_option maxHeartbeats 8000000 in
theorem ends_2 (a0 a1 : Int) (a3 : Bool) (w : World) :
    Calls Try.prog 10 #[.int .i64 a0, .int .i64 a1, .int .i64 2, .bool a3] w fun e w' => e = .returned (.bool true) ∧ Below w.heap.size w w' := by
  go_enter Try.func10, Try.ntmps10
  go_wp2_with fail
  refine (f39_ok w).mono ?_; rintro e w1 ⟨rfl, hb1⟩
  have hb1' := Lib.hid hb1
  go_wp2_with fail
  all_goals try (go_ret; exact ⟨rfl, hb1⟩)
  clear hb1
  have hn300 : Hid (0 ≤ a0 ∧ a0 ≤ 300 ∧ -400 ≤ a1 ∧ a1 ≤ 400) := Lib.hid (by omega)
  refine (f14_ok w1).mono ?_; rintro e w2 ⟨rfl, hw2⟩
  have hM2 : Hid (MemRow w1.heap.size w2 w1.heap.size (.slice none 0 0) []) := Lib.hid (hw2 ▸ MemRow.new w1)
  have hb2 : Hid (Below w1.heap.size w1 w2) := Lib.hid (hw2 ▸ Below.one _)
  clear hw2
  obtain ⟨n, hn⟩ : ∃ n : Nat, Hid (a0 = n) := ⟨a0.toNat, Lib.hid (by have := hn300.out; omega)⟩
  obtain ⟨w3, hmk, hbt, hth, hk5, hb3, hlt⟩ := make_bytes w2 (n := n) (by have := hn.out; have := hn300.out; omega) hn.out
  have hBT := Lib.hid hbt
  have hM3 := Lib.hid (hM2.out.below hb3)
  have hB3 : Hid (Below w1.heap.size w1 w3) := Lib.hid (below_then hb2.out hb3)
  clear hbt hth hk5 hb3 hlt
  go_wp2_with fail
  refine (f43_ok w1.heap.size w3 hM3 (Lib.hid (by decide)) (Lib.hid hB3.out.size) hBT (Lib.hid (by have := hn.out; have := hn300.out; omega)) (Lib.hid fun i hi => by decide) a3).mono ?_; rintro e w4 ⟨rb, bb, v4, rfl, M4, R4, hrb, hbb, O4⟩
  have hM4 := Lib.hid M4
  have hR4 := Lib.hid R4
  have hB4 : Hid (Below w1.heap.size w1 w4) := Lib.hid (hB3.out.trans (O4.belowN hB3.out.size (fun k hk he => by
    rcases he with rfl | he
    · omega
    · simp [Value.ownBlock] at he)))
  have hrb' : Hid (w1.heap.size ≤ rb ∧ w1.heap.size ≤ bb) := Lib.hid (by have := hB3.out.size; omega)
  clear M4 R4 O4 hmk hrb hbb
  have hM5 : Hid (∀ o, MemRow w1.heap.size (w4.alloc o) w1.heap.size v4 ([] ++ [(false, rb)])) := Lib.hid fun o => hM4.out.below (Below.one o)
  have hR5 : Hid (∀ o, RegAt (w4.alloc o) rb bb false a3 n (fun _ => 0)) := Lib.hid fun o => hR4.out.below.out _ (Below.one o)
  have hP5 : Hid (Box (w4.alloc (.cells #[.int .i64 5, .int .u64 0, .int .i64 1, .int .i64 a1] 63)) w4.heap.size (.int .i64 5) (.int .u64 0) (.int .i64 1) (.int .i64 a1)) := Lib.hid Box.new
  have hne : Hid (w4.heap.size ≠ bb ∧ w4.heap.size ≠ rb) := Lib.hid (by have := hR4.out.lt; have := hR4.out.ltR; omega)
  obtain ⟨W, hW⟩ : ∃ W, Hid (w4.alloc (.cells #[.int .i64 5, .int .u64 0, .int .i64 1, .int .i64 a1] 63) = W) := ⟨_, Lib.hid rfl⟩
  rw [hW.out] at hP5
  have hM6 := Lib.hid (hW.out ▸ hM5.out _)
  have hR6 := Lib.hid (hW.out ▸ hR5.out _)
  have hB6 : Hid (Below w1.heap.size w1 W) := Lib.hid (hW.out ▸ below_then hB4.out (Below.one _))
  clear hM5 hR5
  by_cases hin : 0 ≤ a1 ∧ a1 + 2 ≤ n
  · obtain ⟨o, ho⟩ : ∃ o : Nat, a1 = o := ⟨a1.toNat, by omega⟩
    subst ho
    have hn' := hn.out
    subst hn'
    have hok : Hid (o + 2 ≤ n) := Lib.hid (by omega)
    have i1 : ((o : Int) + 2) ≤ n := by omega
    have i2 : wrap64 ((o : Int) + 2) = o + 2 := by unfold wrap64; have := hn300.out; omega
    have i3 : (0 : Int) ≤ o := by omega
    clear hin
    go_wp2_with fail
    rw [hW.out]
    refine (ld_reg hM6 (i := 1) (j := 0) (Lib.hid (by decide)) hR6 (Lib.hid rfl) (o := o) (k := 2) (Lib.hid (by decide)) (.int .u64 0) hok).mono ?_; rintro e w5 ⟨rfl, hb5⟩
    have hQ : ∀ o, Box (w5.alloc o) w4.heap.size _ _ _ _ := fun o => hP5.out.below (below_then hb5 (Below.one o))
    have p0 := fun o => (hQ o).c0
    have p1 := fun o => (hQ o).c1
    have p2 := fun o => (hQ o).c2
    have p3 := fun o => (hQ o).c3
    clear hQ
    have hM7 : Hid (∀ ob, MemRow w1.heap.size (w5.alloc ob) w1.heap.size v4 ([] ++ [(false, rb)])) := Lib.hid fun ob => hM6.out.below (below_then hb5 (Below.one ob))
    have hR7 : Hid (∀ ob, RegAt (w5.alloc ob) rb bb false a3 n (fun _ => 0)) := Lib.hid fun ob => hR6.out.below.out _ (below_then hb5 (Below.one ob))
    have hP7 : Hid (∀ ob, Box (w5.alloc ob) w4.heap.size (.int .i64 5) (.int .u64 0) (.int .i64 1) (.int .i64 o)) := Lib.hid fun ob => hP5.out.below (below_then hb5 (Below.one ob))
    have hB7 : Hid (∀ ob, Below w1.heap.size w1 (w5.alloc ob)) := Lib.hid fun ob => below_then hB6.out (below_then hb5 (Below.one ob))
    clear hb5
    go_wp2_with fail
    refine (st_reg (Lib.hid (hM7.out _)) (i := 1) (j := 0) (Lib.hid (by decide)) (Lib.hid (hR7.out _)) (Lib.hid rfl) (o := o) (k := 2) (Lib.hid (by decide)) (.int .u64 0) hok (x := 7) (by decide) 0 0).mono ?_; rintro e w6 ⟨rfl, O6, R6, M6⟩
    clear p0 p1 p2 p3
    have hP8 : Hid (Box w6 w4.heap.size (.int .i64 5) (.int .u64 0) (.int .i64 1) (.int .i64 o)) := Lib.hid ((hP7.out _).only O6 hne.out.1)
    have hB8 : Hid (Below w1.heap.size w1 w6) := Lib.hid ((hB7.out _).trans (O6.belowN (hB7.out _).size (fun k hk he => by have := hrb'.out; omega)))
    have hM8 := Lib.hid M6
    clear M6 O6
    cases a3
    all_goals
      simp only [Bool.false_eq_true, if_true, if_false] at R6 ⊢
      have hR8 := Lib.hid R6
      clear R6
      go_wp2_with fail
      refine (kill_reg hM8 (i := 1) (j := 0) (Lib.hid (by decide)) hR8 (Lib.hid rfl)).mono ?_; rintro e w7 ⟨rfl, O7, R7, M7⟩
      have hP9 : Hid (Box w7 w4.heap.size (.int .i64 5) (.int .u64 0) (.int .i64 1) (.int .i64 o)) := Lib.hid (hP8.out.only O7 hne.out.2)
      have hB9 : Hid (Below w1.heap.size w1 w7) := Lib.hid (hB8.out.trans (O7.belowN hB8.out.size (fun k hk he => by have := hrb'.out; omega)))
      have hM9 := Lib.hid M7
      have hR9 := Lib.hid R7
      clear M7 O7 R7
      go_wp2_with fail
      refine (kill_reg hM9 (i := 1) (j := 0) (Lib.hid (by decide)) hR9 (Lib.hid rfl)).mono ?_; rintro e w8 ⟨rfl, O8, R8, M8⟩
      have hP10 : Hid (Box w8 w4.heap.size (.int .i64 5) (.int .u64 0) (.int .i64 1) (.int .i64 o)) := Lib.hid (hP9.out.only O8 hne.out.2)
      have hB10 : Hid (Below w1.heap.size w1 w8) := Lib.hid (hB9.out.trans (O8.belowN hB9.out.size (fun k hk he => by have := hrb'.out; omega)))
      have hM10 := Lib.hid M8
      have hR10 := Lib.hid R8
      clear M8 O8 R8
      have p0 := hP10.out.c0
      have p1 := hP10.out.c1
      have p2 := hP10.out.c2
      have p3 := hP10.out.c3
      go_wp2_with fail
      refine (f42_fail w8 5 (Lib.hid (.inr rfl)) (.int .u64 0) o 2 4 (Lib.hid (by decide)) (by decide) (reg_dead hM10 (i := 1) (j := 0) (Lib.hid (by decide)) hR10 (Lib.hid rfl) 2 o (.int .u64 0))).mono ?_; rintro e w9 ⟨rfl, hb9⟩
      clear p0 p1 p2 p3
      have p0 := (hP10.out.below hb9).c0
      have p1 := (hP10.out.below hb9).c1
      have p2 := (hP10.out.below hb9).c2
      have p3 := (hP10.out.below hb9).c3
      have hM11 := Lib.hid (hM10.out.below hb9)
      have hR11 := Lib.hid (hR10.out.below.out _ hb9)
      have hB11 := Lib.hid (below_then hB10.out hb9)
      clear hb9
      go_wp2_with fail
      refine (f41_fail w9 5 (Lib.hid (.inr rfl)) (.int .u64 0) o 2 4 (Lib.hid (by decide)) (by decide) 1 0 0 0 (by decide) (reg_dead hM11 (i := 1) (j := 0) (Lib.hid (by decide)) hR11 (Lib.hid rfl) 2 o (.int .u64 0))).mono ?_; rintro e w10 ⟨rfl, hb10⟩
      go_wp2_with fail
      go_ret
      exact ⟨rfl, below_then hb1'.out (below_then hB11.out hb10)⟩
  · have hAT : ∃ t, t = a1 := ⟨_, rfl⟩
    have hout : Hid (a1 < 0 ∨ (n : Int) - a1 < (2 : Nat)) := Lib.hid (by omega)
    have hn' := hn.out
    subst hn'
    have hw : Hid (-(2 : Int) ^ 40 ≤ a1 ∧ a1 ≤ 2 ^ 40) := Lib.hid (by have := hn300.out; omega)
    have i2 : wrap64 (a1 + 2) = a1 + 2 := by have := hw.out; unfold wrap64; omega
    by_cases hs : 0 ≤ a1
    all_goals
      have i1 : 0 ≤ a1 → ¬ (a1 + 2 ≤ n) := fun h0 h1 => hin ⟨h0, h1⟩
      first | (have i1' := i1 hs; clear i1) | clear i1
      clear hin
      go_wp2_with fail
      rw [hW.out]
      refine (f42_fail W 5 (Lib.hid (.inr rfl)) (.int .u64 0) a1 2 3 (Lib.hid (by decide)) (by decide) (reg_out hM6 (i := 1) (j := 0) (Lib.hid (by decide)) hR6 (Lib.hid rfl) (k := 2) (Lib.hid (by decide)) (.int .u64 0) hout)).mono ?_; rintro e w5 ⟨rfl, hb5⟩
      have p0 := fun o => (hP5.out.below (below_then hb5 (Below.one o))).c0
      have p1 := fun o => (hP5.out.below (below_then hb5 (Below.one o))).c1
      have p2 := fun o => (hP5.out.below (below_then hb5 (Below.one o))).c2
      have p3 := fun o => (hP5.out.below (below_then hb5 (Below.one o))).c3
      have hM7 : Hid (∀ ob, MemRow w1.heap.size (w5.alloc ob) w1.heap.size v4 ([] ++ [(false, rb)])) := Lib.hid fun ob => hM6.out.below (below_then hb5 (Below.one ob))
      have hR7 : Hid (∀ ob, RegAt (w5.alloc ob) rb bb false a3 n (fun _ => 0)) := Lib.hid fun ob => hR6.out.below.out _ (below_then hb5 (Below.one ob))
      have hP7 : Hid (∀ ob, Box (w5.alloc ob) w4.heap.size (.int .i64 5) (.int .u64 0) (.int .i64 1) (.int .i64 a1)) := Lib.hid fun ob => hP5.out.below (below_then hb5 (Below.one ob))
      have hB7 : Hid (∀ ob, Below w1.heap.size w1 (w5.alloc ob)) := Lib.hid fun ob => below_then hB6.out (below_then hb5 (Below.one ob))
      clear hb5
      go_wp2_with fail
      refine (f41_fail _ 5 (Lib.hid (.inr rfl)) (.int .u64 0) a1 2 3 (Lib.hid (by decide)) (by decide) 1 7 0 0 (by decide) (reg_out (Lib.hid (hM7.out _)) (i := 1) (j := 0) (Lib.hid (by decide)) (Lib.hid (hR7.out _)) (Lib.hid rfl) (k := 2) (Lib.hid (by decide)) (.int .u64 0) hout)).mono ?_; rintro e w6 ⟨rfl, hb6⟩
      clear p0 p1 p2 p3
      have hP8 : Hid (Box w6 w4.heap.size (.int .i64 5) (.int .u64 0) (.int .i64 1) (.int .i64 a1)) := Lib.hid ((hP7.out _).below hb6)
      have hB8 : Hid (Below w1.heap.size w1 w6) := Lib.hid (below_then (hB7.out _) hb6)
      have hM8 := Lib.hid ((hM7.out _).below hb6)
      have hR8 := Lib.hid ((hR7.out _).below.out _ hb6)
      clear hb6
      go_wp2_with fail
      refine (kill_reg hM8 (i := 1) (j := 0) (Lib.hid (by decide)) hR8 (Lib.hid rfl)).mono ?_; rintro e w7 ⟨rfl, O7, R7, M7⟩
      have hP9 : Hid (Box w7 w4.heap.size (.int .i64 5) (.int .u64 0) (.int .i64 1) (.int .i64 a1)) := Lib.hid (hP8.out.only O7 hne.out.2)
      have hB9 : Hid (Below w1.heap.size w1 w7) := Lib.hid (hB8.out.trans (O7.belowN hB8.out.size (fun k hk he => by have := hrb'.out; omega)))
      have hM9 := Lib.hid M7
      have hR9 := Lib.hid R7
      clear M7 O7 R7
      go_wp2_with fail
      refine (kill_reg hM9 (i := 1) (j := 0) (Lib.hid (by decide)) hR9 (Lib.hid rfl)).mono ?_; rintro e w8 ⟨rfl, O8, R8, M8⟩
      have hP10 : Hid (Box w8 w4.heap.size (.int .i64 5) (.int .u64 0) (.int .i64 1) (.int .i64 a1)) := Lib.hid (hP9.out.only O8 hne.out.2)
      have hB10 : Hid (Below w1.heap.size w1 w8) := Lib.hid (hB9.out.trans (O8.belowN hB9.out.size (fun k hk he => by have := hrb'.out; omega)))
      have hM10 := Lib.hid M8
      have hR10 := Lib.hid R8
      clear M8 O8 R8
      have p0 := hP10.out.c0
      have p1 := hP10.out.c1
      have p2 := hP10.out.c2
      have p3 := hP10.out.c3
      go_wp2_with fail
      refine (f42_fail w8 5 (Lib.hid (.inr rfl)) (.int .u64 0) a1 2 4 (Lib.hid (by decide)) (by decide) (reg_dead hM10 (i := 1) (j := 0) (Lib.hid (by decide)) hR10 (Lib.hid rfl) 2 a1 (.int .u64 0))).mono ?_; rintro e w9 ⟨rfl, hb9⟩
      clear p0 p1 p2 p3
      have p0 := (hP10.out.below hb9).c0
      have p1 := (hP10.out.below hb9).c1
      have p2 := (hP10.out.below hb9).c2
      have p3 := (hP10.out.below hb9).c3
      have hM11 := Lib.hid (hM10.out.below hb9)
      have hR11 := Lib.hid (hR10.out.below.out _ hb9)
      have hB11 := Lib.hid (below_then hB10.out hb9)
      clear hb9
      go_wp2_with fail
      refine (f41_fail w9 5 (Lib.hid (.inr rfl)) (.int .u64 0) a1 2 4 (Lib.hid (by decide)) (by decide) 1 0 0 0 (by decide) (reg_dead hM11 (i := 1) (j := 0) (Lib.hid (by decide)) hR11 (Lib.hid rfl) 2 a1 (.int .u64 0))).mono ?_; rintro e w10 ⟨rfl, hb10⟩
      go_wp2_with fail
      go_ret
      exact ⟨rfl, below_then hb1'.out (below_then hB11.out hb10)⟩

set_option maxRecDepth 100000 in
set_option maxHeartbeats 8000000 in
theorem ends_4 (a0 a1 : Int) (a3 : Bool) (w : World) :
    Calls Try.prog 10 #[.int .i64 a0, .int .i64 a1, .int .i64 4, .bool a3] w fun e w' => e = .returned (.bool true) ∧ Below w.heap.size w w' := by
  go_enter Try.func10, Try.ntmps10
  go_wp2_with fail
  refine (f39_ok w).mono ?_; rintro e w1 ⟨rfl, hb1⟩
  have hb1' := Lib.hid hb1
  go_wp2_with fail
  all_goals try (go_ret; exact ⟨rfl, hb1⟩)
  clear hb1
  have hn300 : Hid (0 ≤ a0 ∧ a0 ≤ 300 ∧ -400 ≤ a1 ∧ a1 ≤ 400) := Lib.hid (by omega)
  refine (f14_ok w1).mono ?_; rintro e w2 ⟨rfl, hw2⟩
  have hM2 : Hid (MemRow w1.heap.size w2 w1.heap.size (.slice none 0 0) []) := Lib.hid (hw2 ▸ MemRow.new w1)
  have hb2 : Hid (Below w1.heap.size w1 w2) := Lib.hid (hw2 ▸ Below.one _)
  clear hw2
  obtain ⟨n, hn⟩ : ∃ n : Nat, Hid (a0 = n) := ⟨a0.toNat, Lib.hid (by have := hn300.out; omega)⟩
  obtain ⟨w3, hmk, hbt, hth, hk5, hb3, hlt⟩ := make_bytes w2 (n := n) (by have := hn.out; have := hn300.out; omega) hn.out
  have hBT := Lib.hid hbt
  have hM3 := Lib.hid (hM2.out.below hb3)
  have hB3 : Hid (Below w1.heap.size w1 w3) := Lib.hid (below_then hb2.out hb3)
  clear hbt hth hk5 hb3 hlt
  go_wp2_with fail
  refine (f43_ok w1.heap.size w3 hM3 (Lib.hid (by decide)) (Lib.hid hB3.out.size) hBT (Lib.hid (by have := hn.out; have := hn300.out; omega)) (Lib.hid fun i hi => by decide) a3).mono ?_; rintro e w4 ⟨rb, bb, v4, rfl, M4, R4, hrb, hbb, O4⟩
  have hM4 := Lib.hid M4
  have hR4 := Lib.hid R4
  have hB4 : Hid (Below w1.heap.size w1 w4) := Lib.hid (hB3.out.trans (O4.belowN hB3.out.size (fun k hk he => by
    rcases he with rfl | he
    · omega
    · simp [Value.ownBlock] at he)))
  have hrb' : Hid (w1.heap.size ≤ rb ∧ w1.heap.size ≤ bb) := Lib.hid (by have := hB3.out.size; omega)
  clear M4 R4 O4 hmk hrb hbb
  have hM5 : Hid (∀ o, MemRow w1.heap.size (w4.alloc o) w1.heap.size v4 ([] ++ [(false, rb)])) := Lib.hid fun o => hM4.out.below (Below.one o)
  have hR5 : Hid (∀ o, RegAt (w4.alloc o) rb bb false a3 n (fun _ => 0)) := Lib.hid fun o => hR4.out.below.out _ (Below.one o)
  have hP5 : Hid (Box (w4.alloc (.cells #[.int .i64 5, .int .u64 0, .int .i64 1, .int .i64 a1] 63)) w4.heap.size (.int .i64 5) (.int .u64 0) (.int .i64 1) (.int .i64 a1)) := Lib.hid Box.new
  have hne : Hid (w4.heap.size ≠ bb ∧ w4.heap.size ≠ rb) := Lib.hid (by have := hR4.out.lt; have := hR4.out.ltR; omega)
  obtain ⟨W, hW⟩ : ∃ W, Hid (w4.alloc (.cells #[.int .i64 5, .int .u64 0, .int .i64 1, .int .i64 a1] 63) = W) := ⟨_, Lib.hid rfl⟩
  rw [hW.out] at hP5
  have hM6 := Lib.hid (hW.out ▸ hM5.out _)
  have hR6 := Lib.hid (hW.out ▸ hR5.out _)
  have hB6 : Hid (Below w1.heap.size w1 W) := Lib.hid (hW.out ▸ below_then hB4.out (Below.one _))
  clear hM5 hR5
  by_cases hin : 0 ≤ a1 ∧ a1 + 4 ≤ n
  · obtain ⟨o, ho⟩ : ∃ o : Nat, a1 = o := ⟨a1.toNat, by omega⟩
    subst ho
    have hn' := hn.out
    subst hn'
    have hok : Hid (o + 4 ≤ n) := Lib.hid (by omega)
    have i1 : ((o : Int) + 4) ≤ n := by omega
    have i2 : wrap64 ((o : Int) + 4) = o + 4 := by unfold wrap64; have := hn300.out; omega
    have i3 : (0 : Int) ≤ o := by omega
    clear hin
    go_wp2_with fail
    rw [hW.out]
    refine (ld_reg hM6 (i := 1) (j := 0) (Lib.hid (by decide)) hR6 (Lib.hid rfl) (o := o) (k := 4) (Lib.hid (by decide)) (.int .u64 0) hok).mono ?_; rintro e w5 ⟨rfl, hb5⟩
    have hQ : ∀ o, Box (w5.alloc o) w4.heap.size _ _ _ _ := fun o => hP5.out.below (below_then hb5 (Below.one o))
    have p0 := fun o => (hQ o).c0
    have p1 := fun o => (hQ o).c1
    have p2 := fun o => (hQ o).c2
    have p3 := fun o => (hQ o).c3
    clear hQ
    have hM7 : Hid (∀ ob, MemRow w1.heap.size (w5.alloc ob) w1.heap.size v4 ([] ++ [(false, rb)])) := Lib.hid fun ob => hM6.out.below (below_then hb5 (Below.one ob))
    have hR7 : Hid (∀ ob, RegAt (w5.alloc ob) rb bb false a3 n (fun _ => 0)) := Lib.hid fun ob => hR6.out.below.out _ (below_then hb5 (Below.one ob))
    have hP7 : Hid (∀ ob, Box (w5.alloc ob) w4.heap.size (.int .i64 5) (.int .u64 0) (.int .i64 1) (.int .i64 o)) := Lib.hid fun ob => hP5.out.below (below_then hb5 (Below.one ob))
    have hB7 : Hid (∀ ob, Below w1.heap.size w1 (w5.alloc ob)) := Lib.hid fun ob => below_then hB6.out (below_then hb5 (Below.one ob))
    clear hb5
    go_wp2_with fail
    refine (st_reg (Lib.hid (hM7.out _)) (i := 1) (j := 0) (Lib.hid (by decide)) (Lib.hid (hR7.out _)) (Lib.hid rfl) (o := o) (k := 4) (Lib.hid (by decide)) (.int .u64 0) hok (x := 7) (by decide) 0 0).mono ?_; rintro e w6 ⟨rfl, O6, R6, M6⟩
    clear p0 p1 p2 p3
    have hP8 : Hid (Box w6 w4.heap.size (.int .i64 5) (.int .u64 0) (.int .i64 1) (.int .i64 o)) := Lib.hid ((hP7.out _).only O6 hne.out.1)
    have hB8 : Hid (Below w1.heap.size w1 w6) := Lib.hid ((hB7.out _).trans (O6.belowN (hB7.out _).size (fun k hk he => by have := hrb'.out; omega)))
    have hM8 := Lib.hid M6
    clear M6 O6
    cases a3
    all_goals
      simp only [Bool.false_eq_true, if_true, if_false] at R6 ⊢
      have hR8 := Lib.hid R6
      clear R6
      go_wp2_with fail
      refine (kill_reg hM8 (i := 1) (j := 0) (Lib.hid (by decide)) hR8 (Lib.hid rfl)).mono ?_; rintro e w7 ⟨rfl, O7, R7, M7⟩
      have hP9 : Hid (Box w7 w4.heap.size (.int .i64 5) (.int .u64 0) (.int .i64 1) (.int .i64 o)) := Lib.hid (hP8.out.only O7 hne.out.2)
      have hB9 : Hid (Below w1.heap.size w1 w7) := Lib.hid (hB8.out.trans (O7.belowN hB8.out.size (fun k hk he => by have := hrb'.out; omega)))
      have hM9 := Lib.hid M7
      have hR9 := Lib.hid R7
      clear M7 O7 R7
      go_wp2_with fail
      refine (kill_reg hM9 (i := 1) (j := 0) (Lib.hid (by decide)) hR9 (Lib.hid rfl)).mono ?_; rintro e w8 ⟨rfl, O8, R8, M8⟩
      have hP10 : Hid (Box w8 w4.heap.size (.int .i64 5) (.int .u64 0) (.int .i64 1) (.int .i64 o)) := Lib.hid (hP9.out.only O8 hne.out.2)
      have hB10 : Hid (Below w1.heap.size w1 w8) := Lib.hid (hB9.out.trans (O8.belowN hB9.out.size (fun k hk he => by have := hrb'.out; omega)))
      have hM10 := Lib.hid M8
      have hR10 := Lib.hid R8
      clear M8 O8 R8
      have p0 := hP10.out.c0
      have p1 := hP10.out.c1
      have p2 := hP10.out.c2
      have p3 := hP10.out.c3
      go_wp2_with fail
      refine (f42_fail w8 5 (Lib.hid (.inr rfl)) (.int .u64 0) o 4 4 (Lib.hid (by decide)) (by decide) (reg_dead hM10 (i := 1) (j := 0) (Lib.hid (by decide)) hR10 (Lib.hid rfl) 4 o (.int .u64 0))).mono ?_; rintro e w9 ⟨rfl, hb9⟩
      clear p0 p1 p2 p3
      have p0 := (hP10.out.below hb9).c0
      have p1 := (hP10.out.below hb9).c1
      have p2 := (hP10.out.below hb9).c2
      have p3 := (hP10.out.below hb9).c3
      have hM11 := Lib.hid (hM10.out.below hb9)
      have hR11 := Lib.hid (hR10.out.below.out _ hb9)
      have hB11 := Lib.hid (below_then hB10.out hb9)
      clear hb9
      go_wp2_with fail
      refine (f41_fail w9 5 (Lib.hid (.inr rfl)) (.int .u64 0) o 4 4 (Lib.hid (by decide)) (by decide) 1 0 0 0 (by decide) (reg_dead hM11 (i := 1) (j := 0) (Lib.hid (by decide)) hR11 (Lib.hid rfl) 4 o (.int .u64 0))).mono ?_; rintro e w10 ⟨rfl, hb10⟩
      go_wp2_with fail
      go_ret
      exact ⟨rfl, below_then hb1'.out (below_then hB11.out hb10)⟩
  · have hAT : ∃ t, t = a1 := ⟨_, rfl⟩
    have hout : Hid (a1 < 0 ∨ (n : Int) - a1 < (4 : Nat)) := Lib.hid (by omega)
    have hn' := hn.out
    subst hn'
    have hw : Hid (-(2 : Int) ^ 40 ≤ a1 ∧ a1 ≤ 2 ^ 40) := Lib.hid (by have := hn300.out; omega)
    have i2 : wrap64 (a1 + 4) = a1 + 4 := by have := hw.out; unfold wrap64; omega
    by_cases hs : 0 ≤ a1
    all_goals
      have i1 : 0 ≤ a1 → ¬ (a1 + 4 ≤ n) := fun h0 h1 => hin ⟨h0, h1⟩
      first | (have i1' := i1 hs; clear i1) | clear i1
      clear hin
      go_wp2_with fail
      rw [hW.out]
      refine (f42_fail W 5 (Lib.hid (.inr rfl)) (.int .u64 0) a1 4 3 (Lib.hid (by decide)) (by decide) (reg_out hM6 (i := 1) (j := 0) (Lib.hid (by decide)) hR6 (Lib.hid rfl) (k := 4) (Lib.hid (by decide)) (.int .u64 0) hout)).mono ?_; rintro e w5 ⟨rfl, hb5⟩
      have p0 := fun o => (hP5.out.below (below_then hb5 (Below.one o))).c0
      have p1 := fun o => (hP5.out.below (below_then hb5 (Below.one o))).c1
      have p2 := fun o => (hP5.out.below (below_then hb5 (Below.one o))).c2
      have p3 := fun o => (hP5.out.below (below_then hb5 (Below.one o))).c3
      have hM7 : Hid (∀ ob, MemRow w1.heap.size (w5.alloc ob) w1.heap.size v4 ([] ++ [(false, rb)])) := Lib.hid fun ob => hM6.out.below (below_then hb5 (Below.one ob))
      have hR7 : Hid (∀ ob, RegAt (w5.alloc ob) rb bb false a3 n (fun _ => 0)) := Lib.hid fun ob => hR6.out.below.out _ (below_then hb5 (Below.one ob))
      have hP7 : Hid (∀ ob, Box (w5.alloc ob) w4.heap.size (.int .i64 5) (.int .u64 0) (.int .i64 1) (.int .i64 a1)) := Lib.hid fun ob => hP5.out.below (below_then hb5 (Below.one ob))
      have hB7 : Hid (∀ ob, Below w1.heap.size w1 (w5.alloc ob)) := Lib.hid fun ob => below_then hB6.out (below_then hb5 (Below.one ob))
      clear hb5
      go_wp2_with fail
      refine (f41_fail _ 5 (Lib.hid (.inr rfl)) (.int .u64 0) a1 4 3 (Lib.hid (by decide)) (by decide) 1 7 0 0 (by decide) (reg_out (Lib.hid (hM7.out _)) (i := 1) (j := 0) (Lib.hid (by decide)) (Lib.hid (hR7.out _)) (Lib.hid rfl) (k := 4) (Lib.hid (by decide)) (.int .u64 0) hout)).mono ?_; rintro e w6 ⟨rfl, hb6⟩
      clear p0 p1 p2 p3
      have hP8 : Hid (Box w6 w4.heap.size (.int .i64 5) (.int .u64 0) (.int .i64 1) (.int .i64 a1)) := Lib.hid ((hP7.out _).below hb6)
      have hB8 : Hid (Below w1.heap.size w1 w6) := Lib.hid (below_then (hB7.out _) hb6)
      have hM8 := Lib.hid ((hM7.out _).below hb6)
      have hR8 := Lib.hid ((hR7.out _).below.out _ hb6)
      clear hb6
      go_wp2_with fail
      refine (kill_reg hM8 (i := 1) (j := 0) (Lib.hid (by decide)) hR8 (Lib.hid rfl)).mono ?_; rintro e w7 ⟨rfl, O7, R7, M7⟩
      have hP9 : Hid (Box w7 w4.heap.size (.int .i64 5) (.int .u64 0) (.int .i64 1) (.int .i64 a1)) := Lib.hid (hP8.out.only O7 hne.out.2)
      have hB9 : Hid (Below w1.heap.size w1 w7) := Lib.hid (hB8.out.trans (O7.belowN hB8.out.size (fun k hk he => by have := hrb'.out; omega)))
      have hM9 := Lib.hid M7
      have hR9 := Lib.hid R7
      clear M7 O7 R7
      go_wp2_with fail
      refine (kill_reg hM9 (i := 1) (j := 0) (Lib.hid (by decide)) hR9 (Lib.hid rfl)).mono ?_; rintro e w8 ⟨rfl, O8, R8, M8⟩
      have hP10 : Hid (Box w8 w4.heap.size (.int .i64 5) (.int .u64 0) (.int .i64 1) (.int .i64 a1)) := Lib.hid (hP9.out.only O8 hne.out.2)
      have hB10 : Hid (Below w1.heap.size w1 w8) := Lib.hid (hB9.out.trans (O8.belowN hB9.out.size (fun k hk he => by have := hrb'.out; omega)))
      have hM10 := Lib.hid M8
      have hR10 := Lib.hid R8
      clear M8 O8 R8
      have p0 := hP10.out.c0
      have p1 := hP10.out.c1
      have p2 := hP10.out.c2
      have p3 := hP10.out.c3
      go_wp2_with fail
      refine (f42_fail w8 5 (Lib.hid (.inr rfl)) (.int .u64 0) a1 4 4 (Lib.hid (by decide)) (by decide) (reg_dead hM10 (i := 1) (j := 0) (Lib.hid (by decide)) hR10 (Lib.hid rfl) 4 a1 (.int .u64 0))).mono ?_; rintro e w9 ⟨rfl, hb9⟩
      clear p0 p1 p2 p3
      have p0 := (hP10.out.below hb9).c0
      have p1 := (hP10.out.below hb9).c1
      have p2 := (hP10.out.below hb9).c2
      have p3 := (hP10.out.below hb9).c3
      have hM11 := Lib.hid (hM10.out.below hb9)
      have hR11 := Lib.hid (hR10.out.below.out _ hb9)
      have hB11 := Lib.hid (below_then hB10.out hb9)
      clear hb9
      go_wp2_with fail
      refine (f41_fail w9 5 (Lib.hid (.inr rfl)) (.int .u64 0) a1 4 4 (Lib.hid (by decide)) (by decide) 1 0 0 0 (by decide) (reg_dead hM11 (i := 1) (j := 0) (Lib.hid (by decide)) hR11 (Lib.hid rfl) 4 a1 (.int .u64 0))).mono ?_; rintro e w10 ⟨rfl, hb10⟩
      go_wp2_with fail
      go_ret
      exact ⟨rfl, below_then hb1'.out (below_then hB11.out hb10)⟩

set_option maxRecDepth 100000 in
set_option maxHeartbeats 8000000 in
theorem ends_8 (a0 a1 : Int) (a3 : Bool) (w : World) :
    Calls Try.prog 10 #[.int .i64 a0, .int .i64 a1, .int .i64 8, .bool a3] w fun e w' => e = .returned (.bool true) ∧ Below w.heap.size w w' := by
  go_enter Try.func10, Try.ntmps10
  go_wp2_with fail
  refine (f39_ok w).mono ?_; rintro e w1 ⟨rfl, hb1⟩
  have hb1' := Lib.hid hb1
  go_wp2_with fail
  all_goals try (go_ret; exact ⟨rfl, hb1⟩)
  clear hb1
  have hn300 : Hid (0 ≤ a0 ∧ a0 ≤ 300 ∧ -400 ≤ a1 ∧ a1 ≤ 400) := Lib.hid (by omega)
  refine (f14_ok w1).mono ?_; rintro e w2 ⟨rfl, hw2⟩
  have hM2 : Hid (MemRow w1.heap.size w2 w1.heap.size (.slice none 0 0) []) := Lib.hid (hw2 ▸ MemRow.new w1)
  have hb2 : Hid (Below w1.heap.size w1 w2) := Lib.hid (hw2 ▸ Below.one _)
  clear hw2
  obtain ⟨n, hn⟩ : ∃ n : Nat, Hid (a0 = n) := ⟨a0.toNat, Lib.hid (by have := hn300.out; omega)⟩
  obtain ⟨w3, hmk, hbt, hth, hk5, hb3, hlt⟩ := make_bytes w2 (n := n) (by have := hn.out; have := hn300.out; omega) hn.out
  have hBT := Lib.hid hbt
  have hM3 := Lib.hid (hM2.out.below hb3)
  have hB3 : Hid (Below w1.heap.size w1 w3) := Lib.hid (below_then hb2.out hb3)
  clear hbt hth hk5 hb3 hlt
  go_wp2_with fail
  refine (f43_ok w1.heap.size w3 hM3 (Lib.hid (by decide)) (Lib.hid hB3.out.size) hBT (Lib.hid (by have := hn.out; have := hn300.out; omega)) (Lib.hid fun i hi => by decide) a3).mono ?_; rintro e w4 ⟨rb, bb, v4, rfl, M4, R4, hrb, hbb, O4⟩
  have hM4 := Lib.hid M4
  have hR4 := Lib.hid R4
  have hB4 : Hid (Below w1.heap.size w1 w4) := Lib.hid (hB3.out.trans (O4.belowN hB3.out.size (fun k hk he => by
    rcases he with rfl | he
    · omega
    · simp [Value.ownBlock] at he)))
  have hrb' : Hid (w1.heap.size ≤ rb ∧ w1.heap.size ≤ bb) := Lib.hid (by have := hB3.out.size; omega)
  clear M4 R4 O4 hmk hrb hbb
  have hM5 : Hid (∀ o, MemRow w1.heap.size (w4.alloc o) w1.heap.size v4 ([] ++ [(false, rb)])) := Lib.hid fun o => hM4.out.below (Below.one o)
  have hR5 : Hid (∀ o, RegAt (w4.alloc o) rb bb false a3 n (fun _ => 0)) := Lib.hid fun o => hR4.out.below.out _ (Below.one o)
  have hP5 : Hid (Box (w4.alloc (.cells #[.int .i64 5, .int .u64 0, .int .i64 1, .int .i64 a1] 63)) w4.heap.size (.int .i64 5) (.int .u64 0) (.int .i64 1) (.int .i64 a1)) := Lib.hid Box.new
  have hne : Hid (w4.heap.size ≠ bb ∧ w4.heap.size ≠ rb) := Lib.hid (by have := hR4.out.lt; have := hR4.out.ltR; omega)
  obtain ⟨W, hW⟩ : ∃ W, Hid (w4.alloc (.cells #[.int .i64 5, .int .u64 0, .int .i64 1, .int .i64 a1] 63) = W) := ⟨_, Lib.hid rfl⟩
  rw [hW.out] at hP5
  have hM6 := Lib.hid (hW.out ▸ hM5.out _)
  have hR6 := Lib.hid (hW.out ▸ hR5.out _)
  have hB6 : Hid (Below w1.heap.size w1 W) := Lib.hid (hW.out ▸ below_then hB4.out (Below.one _))
  clear hM5 hR5
  by_cases hin : 0 ≤ a1 ∧ a1 + 8 ≤ n
  · obtain ⟨o, ho⟩ : ∃ o : Nat, a1 = o := ⟨a1.toNat, by omega⟩
    subst ho
    have hn' := hn.out
    subst hn'
    have hok : Hid (o + 8 ≤ n) := Lib.hid (by omega)
    have i1 : ((o : Int) + 8) ≤ n := by omega
    have i2 : wrap64 ((o : Int) + 8) = o + 8 := by unfold wrap64; have := hn300.out; omega
    have i3 : (0 : Int) ≤ o := by omega
    clear hin
    go_wp2_with fail
    rw [hW.out]
    refine (ld_reg hM6 (i := 1) (j := 0) (Lib.hid (by decide)) hR6 (Lib.hid rfl) (o := o) (k := 8) (Lib.hid (by decide)) (.int .u64 0) hok).mono ?_; rintro e w5 ⟨rfl, hb5⟩
    have hQ : ∀ o, Box (w5.alloc o) w4.heap.size _ _ _ _ := fun o => hP5.out.below (below_then hb5 (Below.one o))
    have p0 := fun o => (hQ o).c0
    have p1 := fun o => (hQ o).c1
    have p2 := fun o => (hQ o).c2
    have p3 := fun o => (hQ o).c3
    clear hQ
    have hM7 : Hid (∀ ob, MemRow w1.heap.size (w5.alloc ob) w1.heap.size v4 ([] ++ [(false, rb)])) := Lib.hid fun ob => hM6.out.below (below_then hb5 (Below.one ob))
    have hR7 : Hid (∀ ob, RegAt (w5.alloc ob) rb bb false a3 n (fun _ => 0)) := Lib.hid fun ob => hR6.out.below.out _ (below_then hb5 (Below.one ob))
    have hP7 : Hid (∀ ob, Box (w5.alloc ob) w4.heap.size (.int .i64 5) (.int .u64 0) (.int .i64 1) (.int .i64 o)) := Lib.hid fun ob => hP5.out.below (below_then hb5 (Below.one ob))
    have hB7 : Hid (∀ ob, Below w1.heap.size w1 (w5.alloc ob)) := Lib.hid fun ob => below_then hB6.out (below_then hb5 (Below.one ob))
    clear hb5
    go_wp2_with fail
    refine (st_reg (Lib.hid (hM7.out _)) (i := 1) (j := 0) (Lib.hid (by decide)) (Lib.hid (hR7.out _)) (Lib.hid rfl) (o := o) (k := 8) (Lib.hid (by decide)) (.int .u64 0) hok (x := 7) (by decide) 0 0).mono ?_; rintro e w6 ⟨rfl, O6, R6, M6⟩
    clear p0 p1 p2 p3
    have hP8 : Hid (Box w6 w4.heap.size (.int .i64 5) (.int .u64 0) (.int .i64 1) (.int .i64 o)) := Lib.hid ((hP7.out _).only O6 hne.out.1)
    have hB8 : Hid (Below w1.heap.size w1 w6) := Lib.hid ((hB7.out _).trans (O6.belowN (hB7.out _).size (fun k hk he => by have := hrb'.out; omega)))
    have hM8 := Lib.hid M6
    clear M6 O6
    cases a3
    all_goals
      simp only [Bool.false_eq_true, if_true, if_false] at R6 ⊢
      have hR8 := Lib.hid R6
      clear R6
      go_wp2_with fail
      refine (kill_reg hM8 (i := 1) (j := 0) (Lib.hid (by decide)) hR8 (Lib.hid rfl)).mono ?_; rintro e w7 ⟨rfl, O7, R7, M7⟩
      have hP9 : Hid (Box w7 w4.heap.size (.int .i64 5) (.int .u64 0) (.int .i64 1) (.int .i64 o)) := Lib.hid (hP8.out.only O7 hne.out.2)
      have hB9 : Hid (Below w1.heap.size w1 w7) := Lib.hid (hB8.out.trans (O7.belowN hB8.out.size (fun k hk he => by have := hrb'.out; omega)))
      have hM9 := Lib.hid M7
      have hR9 := Lib.hid R7
      clear M7 O7 R7
      go_wp2_with fail
      refine (kill_reg hM9 (i := 1) (j := 0) (Lib.hid (by decide)) hR9 (Lib.hid rfl)).mono ?_; rintro e w8 ⟨rfl, O8, R8, M8⟩
      have hP10 : Hid (Box w8 w4.heap.size (.int .i64 5) (.int .u64 0) (.int .i64 1) (.int .i64 o)) := Lib.hid (hP9.out.only O8 hne.out.2)
      have hB10 : Hid (Below w1.heap.size w1 w8) := Lib.hid (hB9.out.trans (O8.belowN hB9.out.size (fun k hk he => by have := hrb'.out; omega)))
      have hM10 := Lib.hid M8
      have hR10 := Lib.hid R8
      clear M8 O8 R8
      have p0 := hP10.out.c0
      have p1 := hP10.out.c1
      have p2 := hP10.out.c2
      have p3 := hP10.out.c3
      go_wp2_with fail
      refine (f42_fail w8 5 (Lib.hid (.inr rfl)) (.int .u64 0) o 8 4 (Lib.hid (by decide)) (by decide) (reg_dead hM10 (i := 1) (j := 0) (Lib.hid (by decide)) hR10 (Lib.hid rfl) 8 o (.int .u64 0))).mono ?_; rintro e w9 ⟨rfl, hb9⟩
      clear p0 p1 p2 p3
      have p0 := (hP10.out.below hb9).c0
      have p1 := (hP10.out.below hb9).c1
      have p2 := (hP10.out.below hb9).c2
      have p3 := (hP10.out.below hb9).c3
      have hM11 := Lib.hid (hM10.out.below hb9)
      have hR11 := Lib.hid (hR10.out.below.out _ hb9)
      have hB11 := Lib.hid (below_then hB10.out hb9)
      clear hb9
      go_wp2_with fail
      refine (f41_fail w9 5 (Lib.hid (.inr rfl)) (.int .u64 0) o 8 4 (Lib.hid (by decide)) (by decide) 1 0 0 0 (by decide) (reg_dead hM11 (i := 1) (j := 0) (Lib.hid (by decide)) hR11 (Lib.hid rfl) 8 o (.int .u64 0))).mono ?_; rintro e w10 ⟨rfl, hb10⟩
      go_wp2_with fail
      go_ret
      exact ⟨rfl, below_then hb1'.out (below_then hB11.out hb10)⟩
  · have hAT : ∃ t, t = a1 := ⟨_, rfl⟩
    have hout : Hid (a1 < 0 ∨ (n : Int) - a1 < (8 : Nat)) := Lib.hid (by omega)
    have hn' := hn.out
    subst hn'
    have hw : Hid (-(2 : Int) ^ 40 ≤ a1 ∧ a1 ≤ 2 ^ 40) := Lib.hid (by have := hn300.out; omega)
    have i2 : wrap64 (a1 + 8) = a1 + 8 := by have := hw.out; unfold wrap64; omega
    by_cases hs : 0 ≤ a1
    all_goals
      have i1 : 0 ≤ a1 → ¬ (a1 + 8 ≤ n) := fun h0 h1 => hin ⟨h0, h1⟩
      first | (have i1' := i1 hs; clear i1) | clear i1
      clear hin
      go_wp2_with fail
      rw [hW.out]
      refine (f42_fail W 5 (Lib.hid (.inr rfl)) (.int .u64 0) a1 8 3 (Lib.hid (by decide)) (by decide) (reg_out hM6 (i := 1) (j := 0) (Lib.hid (by decide)) hR6 (Lib.hid rfl) (k := 8) (Lib.hid (by decide)) (.int .u64 0) hout)).mono ?_; rintro e w5 ⟨rfl, hb5⟩
      have p0 := fun o => (hP5.out.below (below_then hb5 (Below.one o))).c0
      have p1 := fun o => (hP5.out.below (below_then hb5 (Below.one o))).c1
      have p2 := fun o => (hP5.out.below (below_then hb5 (Below.one o))).c2
      have p3 := fun o => (hP5.out.below (below_then hb5 (Below.one o))).c3
      have hM7 : Hid (∀ ob, MemRow w1.heap.size (w5.alloc ob) w1.heap.size v4 ([] ++ [(false, rb)])) := Lib.hid fun ob => hM6.out.below (below_then hb5 (Below.one ob))
      have hR7 : Hid (∀ ob, RegAt (w5.alloc ob) rb bb false a3 n (fun _ => 0)) := Lib.hid fun ob => hR6.out.below.out _ (below_then hb5 (Below.one ob))
      have hP7 : Hid (∀ ob, Box (w5.alloc ob) w4.heap.size (.int .i64 5) (.int .u64 0) (.int .i64 1) (.int .i64 a1)) := Lib.hid fun ob => hP5.out.below (below_then hb5 (Below.one ob))
      have hB7 : Hid (∀ ob, Below w1.heap.size w1 (w5.alloc ob)) := Lib.hid fun ob => below_then hB6.out (below_then hb5 (Below.one ob))
      clear hb5
      go_wp2_with fail
      refine (f41_fail _ 5 (Lib.hid (.inr rfl)) (.int .u64 0) a1 8 3 (Lib.hid (by decide)) (by decide) 1 7 0 0 (by decide) (reg_out (Lib.hid (hM7.out _)) (i := 1) (j := 0) (Lib.hid (by decide)) (Lib.hid (hR7.out _)) (Lib.hid rfl) (k := 8) (Lib.hid (by decide)) (.int .u64 0) hout)).mono ?_; rintro e w6 ⟨rfl, hb6⟩
      clear p0 p1 p2 p3
      have hP8 : Hid (Box w6 w4.heap.size (.int .i64 5) (.int .u64 0) (.int .i64 1) (.int .i64 a1)) := Lib.hid ((hP7.out _).below hb6)
      have hB8 : Hid (Below w1.heap.size w1 w6) := Lib.hid (below_then (hB7.out _) hb6)
      have hM8 := Lib.hid ((hM7.out _).below hb6)
      have hR8 := Lib.hid ((hR7.out _).below.out _ hb6)
      clear hb6
      go_wp2_with fail
      refine (kill_reg hM8 (i := 1) (j := 0) (Lib.hid (by decide)) hR8 (Lib.hid rfl)).mono ?_; rintro e w7 ⟨rfl, O7, R7, M7⟩
      have hP9 : Hid (Box w7 w4.heap.size (.int .i64 5) (.int .u64 0) (.int .i64 1) (.int .i64 a1)) := Lib.hid (hP8.out.only O7 hne.out.2)
      have hB9 : Hid (Below w1.heap.size w1 w7) := Lib.hid (hB8.out.trans (O7.belowN hB8.out.size (fun k hk he => by have := hrb'.out; omega)))
      have hM9 := Lib.hid M7
      have hR9 := Lib.hid R7
      clear M7 O7 R7
      go_wp2_with fail
      refine (kill_reg hM9 (i := 1) (j := 0) (Lib.hid (by decide)) hR9 (Lib.hid rfl)).mono ?_; rintro e w8 ⟨rfl, O8, R8, M8⟩
      have hP10 : Hid (Box w8 w4.heap.size (.int .i64 5) (.int .u64 0) (.int .i64 1) (.int .i64 a1)) := Lib.hid (hP9.out.only O8 hne.out.2)
      have hB10 : Hid (Below w1.heap.size w1 w8) := Lib.hid (hB9.out.trans (O8.belowN hB9.out.size (fun k hk he => by have := hrb'.out; omega)))
      have hM10 := Lib.hid M8
      have hR10 := Lib.hid R8
      clear M8 O8 R8
      have p0 := hP10.out.c0
      have p1 := hP10.out.c1
      have p2 := hP10.out.c2
      have p3 := hP10.out.c3
      go_wp2_with fail
      refine (f42_fail w8 5 (Lib.hid (.inr rfl)) (.int .u64 0) a1 8 4 (Lib.hid (by decide)) (by decide) (reg_dead hM10 (i := 1) (j := 0) (Lib.hid (by decide)) hR10 (Lib.hid rfl) 8 a1 (.int .u64 0))).mono ?_; rintro e w9 ⟨rfl, hb9⟩
      clear p0 p1 p2 p3
      have p0 := (hP10.out.below hb9).c0
      have p1 := (hP10.out.below hb9).c1
      have p2 := (hP10.out.below hb9).c2
      have p3 := (hP10.out.below hb9).c3
      have hM11 := Lib.hid (hM10.out.below hb9)
      have hR11 := Lib.hid (hR10.out.below.out _ hb9)
      have hB11 := Lib.hid (below_then hB10.out hb9)
      clear hb9
      go_wp2_with fail
      refine (f41_fail w9 5 (Lib.hid (.inr rfl)) (.int .u64 0) a1 8 4 (Lib.hid (by decide)) (by decide) 1 0 0 0 (by decide) (reg_dead hM11 (i := 1) (j := 0) (Lib.hid (by decide)) hR11 (Lib.hid rfl) 8 a1 (.int .u64 0))).mono ?_; rintro e w10 ⟨rfl, hb10⟩
      go_wp2_with fail
      go_ret
      exact ⟨rfl, below_then hb1'.out (below_then hB11.out hb10)⟩

theorem regionEnds_walk (a0 a1 a2 : Int) (a3 : Bool) (w0 : (Lit.int .i64 a0).wf = true) (w1 : (Lit.int .i64 a1).wf = true) (w2 : (Lit.int .i64 a2).wf = true) (w : World) :
    Calls Try.prog 10 #[.int .i64 a0, .int .i64 a1, .int .i64 a2, .bool a3] w fun e w' => e = .returned (.bool true) ∧ Below w.heap.size w w' := by
  by_cases h1 : a2 = 1
  · subst h1; exact ends_1 a0 a1 a3 w
  by_cases h2 : a2 = 2
  · subst h2; exact ends_2 a0 a1 a3 w
  by_cases h4 : a2 = 4
  · subst h4; exact ends_4 a0 a1 a3 w
  by_cases h8 : a2 = 8
  · subst h8; exact ends_8 a0 a1 a3 w
  exact ends_no a0 a1 a2 a3 w h1 h2 h4 h8
end Go.Proofs.Ytmjeloinibembaa
