/-
  THE WALKS of package region: a frame's methods.
-/
import Derived.Test.YtmjeloinibembaaFrB
namespace Go.Proofs.Ytmjeloinibembaa
open Go.RowKit
set_option linter.unusedVariables false
set_option linter.unusedSimpArgs false
def tagT (F : FS) (o n : Nat) : Bool := decide (∃ k, k < (o + n - 1) / 8 + 1 - o / 8 ∧ F.tag (o / 8 + k) ≠ 0)
def hasT (F : FS) (o n : Nat) : Bool := decide (∃ k, k < (o + n - 1) / 8 + 1 - o / 8 ∧ F.has (o / 8 + k) = true)
def wrT (F : FS) (o n : Nat) : Bool := decide (∀ k, k < n → F.wr (o + k) = true)
set_option maxRecDepth 100000 in
set_option maxHeartbeats 1000000 in
theorem f96_ok (w : World) {fb : Nat} {F : FS} (hF : Hid (FrameAt w fb F)) {o n : Nat} (hn : Hid (0 < n)) (ho : Hid (o + n ≤ 512)) {t : Bool} (ht : Hid (tagT F o n = t)) :
    Calls Try.prog 96 #[.pointer (some ⟨fb, 0, none⟩), .int .i64 o, .int .i64 n] w fun e w' => e = .returned (.int .i64 (if t then 14 else 0)) ∧ Below w.heap.size w w' := by
  cases t
  all_goals
    go_enter Try.func96, Try.ntmps96
    go_wp2_with fail
    refine (f101_ok w hn.out ho.out).mono ?_; rintro e w' ⟨rfl, rfl⟩
    go_wp2_with fail
    refine (f67_ok w hF (by have := hn.out; have := ho.out; omega)).mono ?_; rintro e w1 ⟨rfl, h1⟩
    have hh := ht.out
    unfold tagT at hh
    rw [hh]
    go_wp2_with fail
    go_ret
    exact ⟨rfl, h1⟩
/-- what reading tells. -/
def readT (F : FS) (o n : Nat) : Int := if tagT F o n then 14 else if hasT F o n then 6 else if wrT F o n then 0 else 1
set_option maxRecDepth 100000 in
set_option maxHeartbeats 2000000 in
theorem f99_ok (w : World) {fb : Nat} {F : FS} (hF : Hid (FrameAt w fb F)) {o n : Nat} (hn : Hid (0 < n)) (ho : Hid (o + n ≤ 512)) :
    Calls Try.prog 99 #[.pointer (some ⟨fb, 0, none⟩), .int .i64 o, .int .i64 n] w fun e w' => e = .returned (.int .i64 (readT F o n)) ∧ Below w.heap.size w w' := by
  obtain ⟨t, ht⟩ : ∃ t, Hid (tagT F o n = t) := ⟨_, Lib.hid rfl⟩
  obtain ⟨h, hh⟩ : ∃ h, Hid (hasT F o n = h) := ⟨_, Lib.hid rfl⟩
  have hsl : ∀ w, (Instr.sliceAt 116 (.pointer (some ⟨fb, 513, none⟩)) (some (.int .i64 (o : Int))) (some (.int .i64 ((o : Int) + n))) none).run Try.prog w = .ok (.slice (some ⟨fb, 513 + o, none⟩) n (512 - o)) w := fun w => by
    have h1 := slice_written w fb o (o + n) (l := o) (h := (o : Int) + n) rfl (by omega) (by have := hn.out; omega) ho.out
    rw [h1, show o + n - o = n by omega]
  obtain ⟨r, hr⟩ : ∃ r, Hid (readT F o n = r) := ⟨_, Lib.hid rfl⟩
  rw [hr.out]
  have hno := ho.out
  cases t
  · cases h
    · go_enter Try.func99, Try.ntmps99
      go_wp2_with fail
      refine (f101_ok w hn.out ho.out).mono ?_; rintro e w' ⟨rfl, rfl⟩
      go_wp2_with fail
      refine (f67_ok w hF (by have := hn.out; have := ho.out; omega)).mono ?_; rintro e w1 ⟨rfl, h1⟩
      have hh' := ht.out
      unfold tagT at hh'
      rw [hh']
      clear hh'
      go_wp2_with fail
      refine (f102_ok w1 (Lib.hid (hF.out.below.out _ h1)) (by have := hn.out; have := ho.out; omega)).mono ?_; rintro e w2 ⟨rfl, h2⟩
      have hh' := hh.out
      unfold hasT at hh'
      rw [hh']
      clear hh'
      have hb2 := below_then h1 h2
      go_wp2_with fail
      go_loopw [29] (fun i wr => ∃ k : Nat, k ≤ n ∧ i = .int .i64 k ∧ wr = w2 ∧ Hid (∀ j, j < k → F.wr (o + j) = true)) (fun i _ => n - (intOf i).toNat)
      case atStart => exact ⟨0, Nat.zero_le _, rfl, rfl, Lib.hid fun j hj => absurd hj (by omega)⟩
      case round =>
        obtain ⟨k, hk, rfl, rfl, h0⟩ := hrel
        by_cases hlt : k < n
        · have c0 := (hF.out.below.out wr hb2).wr (o + k) (by omega)
          rw [← Nat.add_assoc] at c0
          by_cases ht2 : F.wr (o + k) = true
          · go_wp2_with fail
            go_roundw
            case rel =>
              refine ⟨k + 1, by omega, by go_num, by first | rfl | trivial, Lib.hid fun j hj => ?_⟩
              by_cases hjk : j = k
              · subst hjk; exact ht2
              · exact h0.out j (by omega)
            case measure => simp [intOf]; omega
          · have ht3 : F.wr (o + k) = false := by simpa using ht2
            clear ht2
            go_wp2_with fail
            go_ret
            have hw : wrT F o n = false := decide_eq_false fun hall => absurd (ht3.symm.trans (hall k hlt)) (by decide)
            have hrr : r = 1 := hr.out.symm.trans (by unfold readT; rw [ht.out, hh.out, hw]; rfl)
            exact ⟨by rw [hrr]; rfl, hb2⟩
        · have : k = n := by omega
          subst this
          go_wp2_with fail
          go_ret
          have hw : wrT F o k = true := decide_eq_true h0.out
          have hrr : r = 0 := hr.out.symm.trans (by unfold readT; rw [ht.out, hh.out, hw]; rfl)
          exact ⟨by rw [hrr]; rfl, hb2⟩
    · go_enter Try.func99, Try.ntmps99
      go_wp2_with fail
      refine (f101_ok w hn.out ho.out).mono ?_; rintro e w' ⟨rfl, rfl⟩
      go_wp2_with fail
      refine (f67_ok w hF (by have := hn.out; have := ho.out; omega)).mono ?_; rintro e w1 ⟨rfl, h1⟩
      have hh' := ht.out
      unfold tagT at hh'
      rw [hh']
      clear hh'
      go_wp2_with fail
      refine (f102_ok w1 (Lib.hid (hF.out.below.out _ h1)) (by have := hn.out; have := ho.out; omega)).mono ?_; rintro e w2 ⟨rfl, h2⟩
      have hh' := hh.out
      unfold hasT at hh'
      rw [hh']
      clear hh'
      have hb2 := below_then h1 h2
      go_wp2_with fail
      go_ret
      have hrr : r = 6 := hr.out.symm.trans (by unfold readT; rw [ht.out, hh.out]; rfl)
      exact ⟨by rw [hrr]; rfl, hb2⟩
  · go_enter Try.func99, Try.ntmps99
    go_wp2_with fail
    refine (f101_ok w hn.out ho.out).mono ?_; rintro e w' ⟨rfl, rfl⟩
    go_wp2_with fail
    refine (f67_ok w hF (by have := hn.out; have := ho.out; omega)).mono ?_; rintro e w1 ⟨rfl, h1⟩
    have hh' := ht.out
    unfold tagT at hh'
    rw [hh']
    clear hh'
    go_wp2_with fail
    go_ret
    have hrr : r = 14 := hr.out.symm.trans (by unfold readT; rw [ht.out]; rfl)
    exact ⟨by rw [hrr]; rfl, h1⟩
set_option maxRecDepth 100000 in
set_option maxHeartbeats 2000000 in
theorem f62_ok (w : World) {fb : Nat} {F : FS} (hF : Hid (FrameAt w fb F)) {i : Nat} (hi : i < 64) :
    Calls Try.prog 62 #[.pointer (some ⟨fb, 0, none⟩), .int .i64 i] w fun e w' => e = .returned (.tuple #[]) ∧ Only (· = fb) w w' ∧ FrameAt w' fb { F with has := upd F.has i false, pk := upd F.pk i 0, pn := upd F.pn i 0, pi := upd F.pi i 0, po := upd F.po i 0, wr := fun j => if 8 * i ≤ j ∧ j < 8 * i + 8 then false else F.wr j } := by
  have hi2 : (i : Int) < 64 := by omega
  go_enter Try.func62, Try.ntmps62
  go_wp2_with fail
  refine Reg.start (S := (fun _ => True)) (B := (fun _ => false)) (by kernel_rfl) ?_
  have HD : FrameAt w.drew fb F := hF.out.only ((Only.refl (fun _ => False) _).drew) (fun h => h)
  have O0 : Only (· = fb) w w.drew := (Only.refl _ _).drew
  revert HD O0
  generalize w.drew = W0
  intro HD O0
  refine Reg.take0 (i := 0) (v := ?_) rfl (by kernel_rfl) (by kernel_rfl) (by kernel_rfl) (by kernel_rfl) (fun _ _ _ h => h) (Or.inl ⟨by rfl, ?_⟩) ?_
  rotate_left
  · (intro w _; go_simp; try with_reducible rfl)
  try simp only [Act.put, List.setIfInBounds_toArray, List.set_cons_zero, List.set_cons_succ]
  refine Reg.take0 (i := 1) (v := ?_) rfl (by kernel_rfl) (by kernel_rfl) (by kernel_rfl) (by kernel_rfl) (fun _ _ _ h => h) (Or.inl ⟨by rfl, ?_⟩) ?_
  rotate_left
  · (intro w _; go_simp; try with_reducible rfl)
  try simp only [Act.put, List.setIfInBounds_toArray, List.set_cons_zero, List.set_cons_succ]
  refine Reg.take0 (i := 2) (v := ?_) rfl (by kernel_rfl) (by kernel_rfl) (by kernel_rfl) (by kernel_rfl) (fun _ _ _ h => h) (Or.inl ⟨by rfl, ?_⟩) ?_
  rotate_left
  · (intro w _; go_simp; try with_reducible rfl)
  try simp only [Act.put, List.setIfInBounds_toArray, List.set_cons_zero, List.set_cons_succ]
  refine Reg.take0 (i := 3) (v := ?_) rfl (by kernel_rfl) (by kernel_rfl) (by kernel_rfl) (by kernel_rfl) (fun _ _ _ h => h) (Or.inl ⟨by rfl, ?_⟩) ?_
  rotate_left
  · (intro w _; go_simp; try with_reducible rfl)
  try simp only [Act.put, List.setIfInBounds_toArray, List.set_cons_zero, List.set_cons_succ]
  refine Reg.take0 (i := 4) (v := ?_) rfl (by kernel_rfl) (by kernel_rfl) (by kernel_rfl) (by kernel_rfl) (fun _ _ _ h => h) (Or.inl ⟨by rfl, ?_⟩) ?_
  rotate_left
  · (intro w _; go_simp; try with_reducible rfl)
  try simp only [Act.put, List.setIfInBounds_toArray, List.set_cons_zero, List.set_cons_succ]
  refine Reg.take0 (i := 5) (v := ?_) rfl (by kernel_rfl) (by kernel_rfl) (by kernel_rfl) (by kernel_rfl) (fun _ _ _ h => h) (Or.inl ⟨by rfl, ?_⟩) ?_
  rotate_left
  · (intro w _; go_simp; try with_reducible rfl)
  try simp only [Act.put, List.setIfInBounds_toArray, List.set_cons_zero, List.set_cons_succ]
  refine Reg.take0 (i := 6) (v := ?_) rfl (by kernel_rfl) (by kernel_rfl) (by kernel_rfl) (by kernel_rfl) (fun _ _ _ h => h) (Or.inl ⟨by rfl, ?_⟩) ?_
  rotate_left
  · (intro w _; go_simp; try with_reducible rfl)
  try simp only [Act.put, List.setIfInBounds_toArray, List.set_cons_zero, List.set_cons_succ]
  refine Reg.take0 (i := 7) (v := .pointer (some ⟨fb, 1025 + i * 7, none⟩)) rfl (by kernel_rfl) (by kernel_rfl) (by kernel_rfl) (by kernel_rfl) (fun _ _ _ h => h) (Or.inl ⟨by rfl, ?_⟩) ?_
  · (intro w _; go_simp; try with_reducible rfl)
  try simp only [Act.put, List.setIfInBounds_toArray, List.set_cons_zero, List.set_cons_succ]
  refine Reg.take0 (i := 8) (v := ?_) rfl (by kernel_rfl) (by kernel_rfl) (by kernel_rfl) (by kernel_rfl) (fun _ _ _ h => h) (Or.inl ⟨by rfl, ?_⟩) ?_
  rotate_left
  · (intro w _; go_simp; try with_reducible rfl)
  try simp only [Act.put, List.setIfInBounds_toArray, List.set_cons_zero, List.set_cons_succ]
  refine Reg.take0 (i := 10) (v := ?_) rfl (by kernel_rfl) (by kernel_rfl) (by kernel_rfl) (by kernel_rfl) (fun _ _ _ h => h) (Or.inl ⟨by rfl, ?_⟩) ?_
  rotate_left
  · (intro w _; go_simp; try with_reducible rfl)
  try simp only [Act.put, List.setIfInBounds_toArray, List.set_cons_zero, List.set_cons_succ]
  refine Reg.take0 (i := 11) (v := ?_) rfl (by kernel_rfl) (by kernel_rfl) (by kernel_rfl) (by kernel_rfl) (fun _ _ _ h => h) (Or.inl ⟨by rfl, ?_⟩) ?_
  rotate_left
  · (intro w _; go_simp; try with_reducible rfl)
  try simp only [Act.put, List.setIfInBounds_toArray, List.set_cons_zero, List.set_cons_succ]
  have c4 := HD.has i hi
  have z4 := HD.thaw (1025 + i * 7 + 4)
  refine Reg.only (i := 9) (by kernel_rfl) rfl (fun K hK => ?_)
  go_simp
  refine hK _ _ (fun _ _ => trivial) ?_
  clear hK K
  try simp only [Act.put, List.setIfInBounds_toArray, List.set_cons_zero, List.set_cons_succ]
  refine Reg.take0 (i := 12) (v := .pointer (some ⟨fb, 1025 + i * 7, none⟩)) rfl (by kernel_rfl) (by kernel_rfl) (by kernel_rfl) (by kernel_rfl) (fun _ _ _ h => h) (Or.inl ⟨by rfl, ?_⟩) ?_
  · (intro w _; go_simp; try with_reducible rfl)
  try simp only [Act.put, List.setIfInBounds_toArray, List.set_cons_zero, List.set_cons_succ]
  refine Reg.take0 (i := 13) (v := ?_) rfl (by kernel_rfl) (by kernel_rfl) (by kernel_rfl) (by kernel_rfl) (fun _ _ _ h => h) (Or.inl ⟨by rfl, ?_⟩) ?_
  rotate_left
  · (intro w _; go_simp; try with_reducible rfl)
  try simp only [Act.put, List.setIfInBounds_toArray, List.set_cons_zero, List.set_cons_succ]
  have F1 := HD.set_has hi false
  have O1 : Only (· = fb) w (W0.setCell ⟨fb, 1025 + i * 7 + 4, none⟩ (.bool false)) := O0.setCell (fun _ => rfl) _
  revert F1 O1
  generalize W0.setCell ⟨fb, 1025 + i * 7 + 4, none⟩ (.bool false) = W1
  intro F1 O1
  clear c4 z4 HD
  have c0 := F1.pk i hi
  have c1 := F1.pn i hi
  have c2 := F1.pi i hi
  have c3 := F1.po i hi
  have z0 := F1.thaw (1025 + i * 7)
  have z1 := F1.thaw (1025 + i * 7 + 1)
  have z2 := F1.thaw (1025 + i * 7 + 2)
  have z3 := F1.thaw (1025 + i * 7 + 3)
  have HF2 := Lib.hid ((((F1.set_pk hi 0).set_pn hi 0).set_pi hi 0).set_po hi 0)
  have O2 := (((O1.setCell (p := ⟨fb, 1025 + i * 7, none⟩) (fun _ => rfl) (.int .i64 0)).setCell (p := ⟨fb, 1025 + i * 7 + 1, none⟩) (fun _ => rfl) (.int .u64 0)).setCell (p := ⟨fb, 1025 + i * 7 + 2, none⟩) (fun _ => rfl) (.int .i64 0)).setCell (p := ⟨fb, 1025 + i * 7 + 3, none⟩) (fun _ => rfl) (.int .i64 0)
  clear F1
  refine Reg.only (i := 14) (by kernel_rfl) rfl (fun K hK => ?_)
  go_simp
  refine hK _ _ (fun _ _ => trivial) ?_
  clear hK K
  try simp only [Act.put, List.setIfInBounds_toArray, List.set_cons_zero, List.set_cons_succ]
  refine Reg.done (by kernel_rfl) ?_ _
  revert HF2 O2
  generalize (((W1.setCell ⟨fb, 1025 + i * 7, none⟩ (.int .i64 0)).setCell ⟨fb, 1025 + i * 7 + 1, none⟩ (.int .u64 0)).setCell ⟨fb, 1025 + i * 7 + 2, none⟩ (.int .i64 0)).setCell ⟨fb, 1025 + i * 7 + 3, none⟩ (.int .i64 0) = W2
  intro HF2 O2
  clear c0 c1 c2 c3 z0 z1 z2 z3 O1
  go_wp2_with fail
  go_loopw [18] (fun v wr => ∃ k : Nat, k ≤ 8 ∧ v = .int .i64 k ∧ Only (· = fb) w wr ∧ Hid (FrameAt wr fb { F with has := upd F.has i false, pk := upd F.pk i 0, pn := upd F.pn i 0, pi := upd F.pi i 0, po := upd F.po i 0, wr := fun j => if 8 * i ≤ j ∧ j < 8 * i + k then false else F.wr j })) (fun v _ => 8 - (intOf v).toNat)
  case atStart =>
    refine ⟨0, Nat.zero_le _, rfl, O2, Lib.hid ?_⟩
    have e : (fun j => if 8 * i ≤ j ∧ j < 8 * i + 0 then false else F.wr j) = F.wr := funext fun j => if_neg (by omega)
    rw [e]; exact HF2.out
  case round =>
    obtain ⟨k, hk, rfl, hb, hFk⟩ := hrel
    by_cases hlt : k < 8
    · have c0 := hFk.out.wr (8 * i + k) (by omega)
      have z0 := hFk.out.thaw (513 + (8 * i + k))
      have e1 : wrap64 (8 * (i : Int)) = 8 * i := by unfold wrap64; omega
      go_wp2_with fail
      go_roundw
      case rel =>
        have h1 := hFk.out.set_wr (k := 8 * i + k) (by omega) false
        refine ⟨k + 1, by omega, by go_num, hb.setCell (fun _ => rfl) _, Lib.hid ?_⟩
        have e : (fun j => if 8 * i ≤ j ∧ j < 8 * i + (k + 1) then false else F.wr j) = upd (fun j => if 8 * i ≤ j ∧ j < 8 * i + k then false else F.wr j) (8 * i + k) false := funext fun j => by
          by_cases hj : j = 8 * i + k
          · subst hj; rw [upd_same, if_pos (by omega)]
          · rw [upd_ne _ _ hj]
            by_cases hj2 : 8 * i ≤ j ∧ j < 8 * i + k
            · rw [if_pos hj2, if_pos (by omega)]
            · rw [if_neg hj2, if_neg (by omega)]
        rw [e]; exact h1
      case measure => simp [intOf]; omega
    · have : k = 8 := by omega
      subst this
      go_wp2_with fail
      go_returns
      exact ⟨rfl, hb, hFk.out⟩
end Go.Proofs.Ytmjeloinibembaa
