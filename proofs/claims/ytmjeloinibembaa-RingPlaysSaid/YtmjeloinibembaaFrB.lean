/-
  THE WALKS of package region: a frame's slots are looked at.
-/
import Derived.Test.YtmjeloinibembaaFrA
import Derived.Test.YtmjeloinibembaaAddA
namespace Go.Proofs.Ytmjeloinibembaa
open Go.RowKit
set_option linter.unusedVariables false
set_option linter.unusedSimpArgs false
set_option maxRecDepth 100000 in
set_option maxHeartbeats 1000000 in
theorem f40_ok (B : Nat) (w : World) {mb : Nat} {v : Value} {l : List (Bool × Nat)} (hm : Hid (MemRow B w mb v l)) (hl : Hid (l.length + 1 < 2 ^ 30)) (hB : Hid (B ≤ w.heap.size)) :
    Calls Try.prog 40 #[.pointer (some ⟨mb, 0, none⟩)] w fun e w' => ∃ fb v', e = .returned (.int .i64 ((l.length + 1 : Nat) : Int)) ∧ MemRow B w' mb v' (l ++ [(true, fb)]) ∧ FrameAt w' fb FS.zero ∧ w.heap.size ≤ fb ∧ Only (fun k => k = mb ∨ v.ownBlock = some k) w w' := by
  have h1 := hm.out.all
  have hoB : (w.alloc (.cells Try.zeroCells121 121)).ownsRow B 90 1 v l.length (l.map areaV) := hm.out.own.alloc _
  obtain ⟨v', w3, hap, ho3, hg3⟩ := append90 hoB (by have := hB.out; simp; omega) (by have := hl.out; omega) (true, w.heap.size)
  simp only [World.size_alloc, area_f] at hap
  obtain ⟨g2, c2, rfl, hgB, hgl, hgc⟩ := own_slice ho3 (own_ne ho3 (by simp))
  have hkm1 : KindAt w mb 83 := hm.out.kind
  have hkv1 : ∀ k, v.ownBlock = some k → KindAt w k 90 := fun k hk => (own_kind hm.out.own hk).1
  have hnm : some mb ≠ v.ownBlock := fun he => absurd ((hkv1 mb he.symm).inj hkm1) (by decide)
  have O1 : Only (fun k => k = mb ∨ v.ownBlock = some k) w ((w.alloc (.cells Try.zeroCells121 121)).alloc (.cells #[areaV (true, w.heap.size)] 90)) := ((Only.refl _ _).alloc _).alloc _
  have O3 := O1.grown hg3 (fun k hk => ⟨fun _ => .inr hk, .inr ⟨90, by decide, ((hkv1 k hk).alloc _).alloc _⟩⟩)
  have R1 : Only (fun k => k = mb ∨ v.ownBlock = some k) (w.alloc (.cells Try.zeroCells121 121)) ((w.alloc (.cells Try.zeroCells121 121)).alloc (.cells #[areaV (true, w.heap.size)] 90)) := (Only.refl _ _).alloc _
  have R3 := R1.grown hg3 (fun k hk => ⟨fun _ => .inr hk, .inr ⟨90, by decide, ((hkv1 k hk).alloc _).alloc _⟩⟩)
  have c3 : w3.cell? ⟨mb, 0, none⟩ = some v := hg3.cell (kpa (kpa h1)) hnm
  have z3' : ∀ j, w3.frozen? ⟨mb, j, none⟩ = false := fun j => by
    have h1 := World.frozen?_of_block (a := ⟨mb, j, none⟩) (hg3.block mb ((hkm1.alloc _).alloc _).lt hnm)
    rw [h1, World.frozen?_alloc_old _ _ _ (by have := hkm1.lt; simp; omega), World.frozen?_alloc_old _ _ _ (by have := hkm1.lt; exact Nat.ne_of_lt this)]
    exact hm.out.thaw j
  have FR := FrameAt.new w
  have c4 := cell_same (.slice (some ⟨g2, 0, none⟩) (l ++ [(true, w.heap.size)]).length c2) c3
  have O4 := O3.setCell (p := ⟨mb, 0, none⟩) (fun _ => .inl rfl) (.slice (some ⟨g2, 0, none⟩) (l ++ [(true, w.heap.size)]).length c2)
  have R4 := R3.setCell (p := ⟨mb, 0, none⟩) (fun _ => .inl rfl) (.slice (some ⟨g2, 0, none⟩) (l ++ [(true, w.heap.size)]).length c2)
  have M4 : MemRow B (w3.setCell ⟨mb, 0, none⟩ (.slice (some ⟨g2, 0, none⟩) (l ++ [(true, w.heap.size)]).length c2)) mb (.slice (some ⟨g2, 0, none⟩) (l ++ [(true, w.heap.size)]).length c2) (l ++ [(true, w.heap.size)]) := by
    have hk4 := O4.kind _ _ (by decide) hm.out.kind
    refine ⟨c4, ownsRow_only ho3 ((Only.refl (· = mb) _).setCell (fun _ => rfl) _) (fun k hk he => ?_), fun j => ?_, hk4, hm.out.ge, by have := hl.out; simp; omega⟩
    · subst he
      exact absurd ((own_kind ho3 hk).1.inj (O3.kind _ _ (by decide) hm.out.kind)) (by decide)
    · rw [World.frozen?_setCell]; exact z3' j
  have R5 := FR.only R4 (fun hx => by
    rcases hx with hx | hx
    · exact absurd (FR.kind.inj (hx ▸ hkm1.alloc _)) (by decide)
    · exact absurd (FR.kind.inj ((hkv1 _ hx).alloc _)) (by decide))
  have hfin := Lib.hid (⟨_, _, M4, R5, Nat.le_refl _, O4⟩ : ∃ fb v', MemRow B _ mb v' (l ++ [(true, fb)]) ∧ FrameAt _ fb FS.zero ∧ w.heap.size ≤ fb ∧ Only (fun k => k = mb ∨ v.ownBlock = some k) w _)
  have z3 := z3' 0
  have hap' := Lib.hid hap
  clear M4 R5 O4 R4 O3 R3 O1 ho3 hg3 FR z3' hoB hkm1 hkv1 hap
  simp only [List.length_append, List.length_cons, List.length_nil, Nat.zero_add] at c4 hfin hap'
  go_enter Try.func40, Try.ntmps40
  go_wp2_with (first
    | (at_builtin; refine wpList_plain rfl fun K hK => wp_append_run (.tmp 7) (.tmp 11) 81 rfl _ _ _ rfl rfl hap'.out (hK _ _ ?_)))
  go_ret
  obtain ⟨fb, v', hfin⟩ := hfin.out
  exact ⟨fb, v', rfl, hfin⟩
theorem size118 (w : World) : (sizeOf 118).run Try.prog w = .ok 7 w := by kernel_rfl
theorem size5' (w : World) : (sizeOf 5).run Try.prog w = .ok 1 w := by kernel_rfl
theorem size4' (w : World) : (sizeOf 4).run Try.prog w = .ok 1 w := by kernel_rfl
theorem slice_slots (w : World) (fb a b : Nat) {l h : Int} (hl : l = a) (hh : h = b) (hab : a < b) (hb : b ≤ 64) :
    (Instr.sliceAt 119 (.pointer (some ⟨fb, 1025, none⟩)) (some (.int .i64 l)) (some (.int .i64 h)) none).run Try.prog w = .ok (.slice (some ⟨fb, 1025 + 7 * a, none⟩) (b - a) (64 - a)) w := by
  subst hl hh
  have hA : Try.prog.arrayLen 119 = 64 := by kernel_rfl
  have hE : Try.prog.elem 119 = 118 := by kernel_rfl
  have := run_sliceAt_array_lh (P := Try.prog) w 119 ⟨fb, 1025, none⟩ (by rw [hA, hE]; exact Try.underlying119) .i64 .i64 (a : Int) (b : Int) (by omega) (by omega) (by rw [hA]; omega)
  rw [this, hA, hE, size118]
  simp only [Result.andThen_ok, slicedAt, Int.toNat_natCast]
  rw [if_neg (by omega), addr_add, Nat.mul_comm]
theorem slice_bytes (w : World) (fb a b : Nat) {l h : Int} (hl : l = a) (hh : h = b) (hab : a < b) (hb : b ≤ 512) :
    (Instr.sliceAt 115 (.pointer (some ⟨fb, 1, none⟩)) (some (.int .i64 l)) (some (.int .i64 h)) none).run Try.prog w = .ok (.slice (some ⟨fb, 1 + a, none⟩) (b - a) (512 - a)) w := by
  subst hl hh
  have hA : Try.prog.arrayLen 115 = 512 := by kernel_rfl
  have hE : Try.prog.elem 115 = 5 := by kernel_rfl
  have := run_sliceAt_array_lh (P := Try.prog) w 115 ⟨fb, 1, none⟩ (by rw [hA, hE]; exact Try.underlying115) .i64 .i64 (a : Int) (b : Int) (by omega) (by omega) (by rw [hA]; omega)
  rw [this, hA, hE, size5']
  simp only [Result.andThen_ok, slicedAt, Int.toNat_natCast]
  rw [if_neg (by omega), addr_add, Nat.mul_one]
theorem slice_bytes_from (w : World) (fb a : Nat) {l : Int} (hl : l = a) (hab : a < 512) :
    (Instr.sliceAt 115 (.pointer (some ⟨fb, 1, none⟩)) (some (.int .i64 l)) none none).run Try.prog w = .ok (.slice (some ⟨fb, 1 + a, none⟩) (512 - a) (512 - a)) w := by
  subst hl
  have hA : Try.prog.arrayLen 115 = 512 := by kernel_rfl
  have hE : Try.prog.elem 115 = 5 := by kernel_rfl
  have := run_sliceAt_array_l (P := Try.prog) w 115 ⟨fb, 1, none⟩ (by rw [hA, hE]; exact Try.underlying115) .i64 (a : Int) (by omega) (by rw [hA]; omega)
  rw [this, hA, hE, size5']
  simp only [Result.andThen_ok, slicedAt, Int.toNat_natCast]
  rw [if_neg (by omega), addr_add, Nat.mul_one]
theorem slice_written (w : World) (fb a b : Nat) {l h : Int} (hl : l = a) (hh : h = b) (hab : a < b) (hb : b ≤ 512) :
    (Instr.sliceAt 116 (.pointer (some ⟨fb, 513, none⟩)) (some (.int .i64 l)) (some (.int .i64 h)) none).run Try.prog w = .ok (.slice (some ⟨fb, 513 + a, none⟩) (b - a) (512 - a)) w := by
  subst hl hh
  have hA : Try.prog.arrayLen 116 = 512 := by kernel_rfl
  have hE : Try.prog.elem 116 = 4 := by kernel_rfl
  have := run_sliceAt_array_lh (P := Try.prog) w 116 ⟨fb, 513, none⟩ (by rw [hA, hE]; exact Try.underlying116) .i64 .i64 (a : Int) (b : Int) (by omega) (by omega) (by rw [hA]; omega)
  rw [this, hA, hE, size4']
  simp only [Result.andThen_ok, slicedAt, Int.toNat_natCast]
  rw [if_neg (by omega), addr_add, Nat.mul_one]

theorem FrameAt.slot {w : World} {fb : Nat} {F : FS} (h : FrameAt w fb F) {s k : Nat} (hk : s + k < 64) :
    w.cell? ⟨fb, 1025 + 7 * s + k * 7, none⟩ = some (.int .i64 (F.pk (s + k))) ∧ w.cell? ⟨fb, 1025 + 7 * s + k * 7 + 1, none⟩ = some (.int .u64 (F.pn (s + k))) ∧ w.cell? ⟨fb, 1025 + 7 * s + k * 7 + 2, none⟩ = some (.int .i64 (F.pi (s + k))) ∧
    w.cell? ⟨fb, 1025 + 7 * s + k * 7 + 3, none⟩ = some (.int .i64 (F.po (s + k))) ∧ w.cell? ⟨fb, 1025 + 7 * s + k * 7 + 4, none⟩ = some (.bool (F.has (s + k))) ∧ w.cell? ⟨fb, 1025 + 7 * s + k * 7 + 5, none⟩ = some (.int .i64 (F.tag (s + k))) ∧
    w.cell? ⟨fb, 1025 + 7 * s + k * 7 + 6, none⟩ = some (.bool (F.beg (s + k))) := by
  have e : 1025 + 7 * s + k * 7 = 1025 + (s + k) * 7 := by omega
  rw [e]
  exact ⟨h.pk _ hk, h.pn _ hk, h.pi _ hk, h.po _ hk, h.has _ hk, h.tag _ hk, h.beg _ hk⟩

set_option maxRecDepth 100000 in
set_option maxHeartbeats 1000000 in
theorem f101_ok (w : World) {fb : Nat} {o n : Nat} (hn : 0 < n) (ho : o + n ≤ 512) :
    Calls Try.prog 101 #[.pointer (some ⟨fb, 0, none⟩), .int .i64 o, .int .i64 n] w fun e w' => e = .returned (.slice (some ⟨fb, 1025 + 7 * (o / 8), none⟩) ((o + n - 1) / 8 + 1 - o / 8) (64 - o / 8)) ∧ w = w' := by
  have hsl : ∀ w, (Instr.sliceAt 119 (.pointer (some ⟨fb, 1025, none⟩)) (some (.int .i64 ((o : Int) / 8))) (some (.int .i64 (((o : Int) + n - 1) / 8 + 1))) none).run Try.prog w = _ := fun w => slice_slots w fb (o / 8) ((o + n - 1) / 8 + 1) (by omega) (by omega) (by omega) (by omega)
  go_enter Try.func101, Try.ntmps101
  go_wp2_with fail
  go_ret
  exact ⟨rfl, rfl⟩
set_option maxRecDepth 100000 in
set_option maxHeartbeats 2000000 in
theorem f67_ok (w : World) {fb : Nat} {F : FS} (hF : Hid (FrameAt w fb F)) {s m c : Nat} (hs : s + m ≤ 64) :
    Calls Try.prog 67 #[.slice (some ⟨fb, 1025 + 7 * s, none⟩) m c] w fun e w' => e = .returned (.bool (decide (∃ k, k < m ∧ F.tag (s + k) ≠ 0))) ∧ Below w.heap.size w w' := by
  go_enter Try.func67, Try.ntmps67
  go_wp2_with fail
  go_loopw [7] (fun i wr => ∃ k : Nat, k ≤ m ∧ i = .int .i64 k ∧ Below w.heap.size w wr ∧ Hid (∀ j, j < k → F.tag (s + j) = 0)) (fun i _ => m - (intOf i).toNat)
  case atStart => exact ⟨0, Nat.zero_le _, rfl, Below.refl _ _, Lib.hid fun j hj => absurd hj (by omega)⟩
  case round =>
    obtain ⟨k, hk, rfl, hb, h0⟩ := hrel
    by_cases hlt : k < m
    · obtain ⟨c0, c1, c2, c3, c4, c5, c6⟩ := (hF.out.below.out wr hb).slot (s := s) (k := k) (by omega)
      by_cases ht : F.tag (s + k) = 0
      · have ht2 : (F.tag (s + k) != 0) = false := by simp [ht]
        go_wp2_with fail
        go_roundw
        case rel =>
          refine ⟨k + 1, by omega, by go_num, hb.alloc hb.size _, Lib.hid fun j hj => ?_⟩
          by_cases hjk : j = k
          · subst hjk; exact ht
          · exact h0.out j (by omega)
        case measure => simp [intOf]; omega
      · have ht2 : (F.tag (s + k) != 0) = true := by simpa using ht
        go_wp2_with fail
        go_ret
        have hh : decide (∃ k, k < m ∧ F.tag (s + k) ≠ 0) = true := decide_eq_true ⟨k, hlt, ht⟩
        exact ⟨by rw [hh]; rfl, hb.alloc hb.size _⟩
    · have : k = m := by omega
      subst this
      go_wp2_with fail
      go_ret
      have hh : decide (∃ j, j < k ∧ F.tag (s + j) ≠ 0) = false := decide_eq_false fun ⟨j, hj, hne⟩ => hne (h0.out j hj)
      exact ⟨by rw [hh]; rfl, hb⟩
set_option maxRecDepth 100000 in
set_option maxHeartbeats 2000000 in
theorem f102_ok (w : World) {fb : Nat} {F : FS} (hF : Hid (FrameAt w fb F)) {s m c : Nat} (hs : s + m ≤ 64) :
    Calls Try.prog 102 #[.slice (some ⟨fb, 1025 + 7 * s, none⟩) m c] w fun e w' => e = .returned (.bool (decide (∃ k, k < m ∧ F.has (s + k) = true))) ∧ Below w.heap.size w w' := by
  go_enter Try.func102, Try.ntmps102
  go_wp2_with fail
  go_loopw [7] (fun i wr => ∃ k : Nat, k ≤ m ∧ i = .int .i64 k ∧ Below w.heap.size w wr ∧ Hid (∀ j, j < k → F.has (s + j) = false)) (fun i _ => m - (intOf i).toNat)
  case atStart => exact ⟨0, Nat.zero_le _, rfl, Below.refl _ _, Lib.hid fun j hj => absurd hj (by omega)⟩
  case round =>
    obtain ⟨k, hk, rfl, hb, h0⟩ := hrel
    by_cases hlt : k < m
    · obtain ⟨c0, c1, c2, c3, c4, c5, c6⟩ := (hF.out.below.out wr hb).slot (s := s) (k := k) (by omega)
      by_cases ht : F.has (s + k) = false
      · have ht2 : F.has (s + k) = false := ht
        go_wp2_with fail
        go_roundw
        case rel =>
          refine ⟨k + 1, by omega, by go_num, hb.alloc hb.size _, Lib.hid fun j hj => ?_⟩
          by_cases hjk : j = k
          · subst hjk; exact ht
          · exact h0.out j (by omega)
        case measure => simp [intOf]; omega
      · have ht2 : F.has (s + k) = true := by simpa using ht
        go_wp2_with fail
        go_ret
        have hh : decide (∃ k, k < m ∧ F.has (s + k) = true) = true := decide_eq_true ⟨k, hlt, ht2⟩
        exact ⟨by rw [hh]; rfl, hb.alloc hb.size _⟩
    · have : k = m := by omega
      subst this
      go_wp2_with fail
      go_ret
      have hh : decide (∃ j, j < k ∧ F.has (s + j) = true) = false := decide_eq_false fun ⟨j, hj, hne⟩ => absurd (hne.symm.trans (h0.out j hj)) (by decide)
      exact ⟨by rw [hh]; rfl, hb⟩
end Go.Proofs.Ytmjeloinibembaa
