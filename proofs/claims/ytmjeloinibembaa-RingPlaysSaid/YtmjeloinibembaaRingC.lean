/-
  RINGS: Reserve.
-/
import Derived.Test.YtmjeloinibembaaRingB
namespace Go.Proofs.Ytmjeloinibembaa
open Go.RowKit
set_option linter.unusedVariables false
set_option linter.unusedSimpArgs false
set_option maxRecDepth 100000 in
set_option maxHeartbeats 1000000 in
theorem f19_bad (w : World) {rg : Nat} {n : Int} (hn : Hid (n < 1 ∨ 4096 < n)) : Calls Try.prog 19 #[.pointer (some ⟨rg, 0, none⟩), .int .i64 n] w fun e w' => e = .returned (.tuple #[.int .i64 0, .int .i64 100]) ∧ w = w' := by
  rcases hn.out with h | h
  · go_enter Try.func19, Try.ntmps19
    go_wp2_with fail
    go_returns
    exact ⟨rfl, rfl⟩
  · have h2 : ¬ n < 1 := by omega
    go_enter Try.func19, Try.ntmps19
    go_wp2_with fail
    go_returns
    exact ⟨rfl, rfl⟩
set_option maxRecDepth 100000 in
set_option maxHeartbeats 2000000 in
theorem f19_full {B : Nat} {Pr : Nat → Prop} (w : World) {R : RingS} (H : Hid (RingAt B Pr w R)) {n : Nat} (hn : 1 ≤ n ∧ n ≤ 4096) (hl : R.size < usedN R.rows + takesN n) :
    Calls Try.prog 19 #[.pointer (some ⟨R.rg, 0, none⟩), .int .i64 n] w fun e w' => e = .returned (.tuple #[.int .i64 0, .int .i64 102]) ∧ Below w.heap.size w w' := by
  have H1 := H
  obtain ⟨u, hu⟩ : ∃ u, Hid (usedN R.rows = u) := ⟨_, Lib.hid rfl⟩
  obtain ⟨m, hm⟩ : ∃ m, Hid (u + takesN n = m) := ⟨_, Lib.hid rfl⟩
  have e1 : ¬ (n : Int) < 1 := by omega
  have e2 : ¬ (4096 < (n : Int)) := by omega
  have htk : takesN n ≤ 4104 + 7 := by unfold takesN; omega
  have hfit := H.out.fits
  have hu4 : u ≤ 4096 := by rw [hu.out] at hfit; omega
  have e3 : IntKind.i64.wrap ((u : Int) + (takesN n : Int)) = (m : Int) := by rw [IntKind.wrap_i64]; have := hm.out; omega
  have e4 : (R.size : Int) < (m : Int) := by have := hu.out; have := hm.out; omega
  clear hfit htk
  go_enter Try.func19, Try.ntmps19
  go_wp2_with fail
  refine Reg.start (S := (fun w' => w'.cell? ⟨R.rg, 1, none⟩ = some (.int .i64 (u : Int)) ∧ w'.cell? ⟨R.rg, 0, none⟩ = some (.int .i64 (R.size : Int)))) (B := (fun _ => false)) (by kernel_rfl) ?_
  have hbd : Below w.heap.size w w.drew := (Below.refl _ _).drew
  have hH1 := Lib.hid (H1.out.below hbd)
  have c1 : w.drew.cell? ⟨R.rg, 1, none⟩ = some (.int .i64 (u : Int)) := hu.out ▸ hH1.out.c1
  have c0 := hH1.out.c0
  revert hbd hH1 c1 c0
  generalize w.drew = w1
  intro hbd hH1 c1 c0
  refine Reg.take0 (i := 0) (v := ?_) rfl (by kernel_rfl) (by kernel_rfl) (by kernel_rfl) (by kernel_rfl) (fun _ _ _ h => h) (Or.inl ⟨by rfl, ?_⟩) ?_
  rotate_left
  · (intro w _; go_simp; try with_reducible rfl)
  try simp only [Act.put, List.getElem_toArray, List.getElem_cons_succ, List.getElem_cons_zero, List.setIfInBounds_toArray, List.set_cons_zero, List.set_cons_succ]
  refine Reg.take0 (i := 1) (v := ?_) rfl (by kernel_rfl) (by kernel_rfl) (by kernel_rfl) (by kernel_rfl) (fun _ _ _ h => h) (Or.inl ⟨by rfl, ?_⟩) ?_
  rotate_left
  · (intro w _; go_simp; try with_reducible rfl)
  try simp only [Act.put, List.getElem_toArray, List.getElem_cons_succ, List.getElem_cons_zero, List.setIfInBounds_toArray, List.set_cons_zero, List.set_cons_succ]
  refine Reg.take0 (i := 2) (v := ?_) rfl (by kernel_rfl) (by kernel_rfl) (by kernel_rfl) (by kernel_rfl) (fun _ _ _ h => h) (Or.inl ⟨by rfl, ?_⟩) ?_
  rotate_left
  · (intro w _; go_simp; try with_reducible rfl)
  try simp only [Act.put, List.getElem_toArray, List.getElem_cons_succ, List.getElem_cons_zero, List.setIfInBounds_toArray, List.set_cons_zero, List.set_cons_succ]
  refine Reg.take1 (i := 3) (v := ?_) rfl (by kernel_rfl) (by kernel_rfl) (by kernel_rfl) (by kernel_rfl) (by kernel_rfl) (fun _ _ _ h => h) (Or.inl ⟨by rfl, ?_⟩) ⟨c1, c0⟩ ?_
  rotate_left
  · (intro w hS; obtain ⟨hs1, hs2⟩ := hS; go_simp; try with_reducible rfl)
  try simp only [Act.put, List.getElem_toArray, List.getElem_cons_succ, List.getElem_cons_zero, List.setIfInBounds_toArray, List.set_cons_zero, List.set_cons_succ]
  refine Reg.take0 (i := 4) (v := ?_) rfl (by kernel_rfl) (by kernel_rfl) (by kernel_rfl) (by kernel_rfl) (fun _ _ _ h => h) (Or.inl ⟨by rfl, ?_⟩) ?_
  rotate_left
  · (intro w _; go_simp; try with_reducible rfl)
  try simp only [Act.put, List.getElem_toArray, List.getElem_cons_succ, List.getElem_cons_zero, List.setIfInBounds_toArray, List.set_cons_zero, List.set_cons_succ]
  refine Reg.take0 (i := 7) (v := ?_) rfl (by kernel_rfl) (by kernel_rfl) (by kernel_rfl) (by kernel_rfl) (fun _ _ _ h => h) (Or.inl ⟨by rfl, ?_⟩) ?_
  rotate_left
  · (intro w _; go_simp; try with_reducible rfl)
  try simp only [Act.put, List.getElem_toArray, List.getElem_cons_succ, List.getElem_cons_zero, List.setIfInBounds_toArray, List.set_cons_zero, List.set_cons_succ]
  refine Reg.take0 (i := 8) (v := ?_) rfl (by kernel_rfl) (by kernel_rfl) (by kernel_rfl) (by kernel_rfl) (fun _ _ _ h => h) (Or.inl ⟨by rfl, ?_⟩) ?_
  rotate_left
  · (intro w _; go_simp; try with_reducible rfl)
  try simp only [Act.put, List.getElem_toArray, List.getElem_cons_succ, List.getElem_cons_zero, List.setIfInBounds_toArray, List.set_cons_zero, List.set_cons_succ]
  refine Reg.take0 (i := 9) (v := ?_) rfl (by kernel_rfl) (by kernel_rfl) (by kernel_rfl) (by kernel_rfl) (fun _ _ _ h => h) (Or.inl ⟨by rfl, ?_⟩) ?_
  rotate_left
  · (intro w _; go_simp; try with_reducible rfl)
  try simp only [Act.put, List.getElem_toArray, List.getElem_cons_succ, List.getElem_cons_zero, List.setIfInBounds_toArray, List.set_cons_zero, List.set_cons_succ]
  refine Reg.take1 (i := 10) (v := ?_) rfl (by kernel_rfl) (by kernel_rfl) (by kernel_rfl) (by kernel_rfl) (by kernel_rfl) (fun _ _ _ h => h) (Or.inl ⟨by rfl, ?_⟩) ⟨c1, c0⟩ ?_
  rotate_left
  · (intro w hS; obtain ⟨hs1, hs2⟩ := hS; go_simp; try with_reducible rfl)
  try simp only [Act.put, List.getElem_toArray, List.getElem_cons_succ, List.getElem_cons_zero, List.setIfInBounds_toArray, List.set_cons_zero, List.set_cons_succ]
  refine Reg.only (i := 5) (by kernel_rfl) rfl (fun K hK => ?_)
  go_simp
  refine (f49_ok w1 (n := n) (by omega)).mono ?_; rintro e w' ⟨rfl, rfl⟩
  simp only []
  refine hK _ _ (fun _ hS => hS) ?_
  clear hK K
  try simp only [Act.put, List.getElem_toArray, List.getElem_cons_succ, List.getElem_cons_zero, List.setIfInBounds_toArray, List.set_cons_zero, List.set_cons_succ]
  refine Reg.take0 (i := 6) (v := .int .i64 (m : Int)) rfl (by kernel_rfl) (by kernel_rfl) (by kernel_rfl) (by kernel_rfl) (fun _ _ _ h => h) (Or.inl ⟨by rfl, ?_⟩) ?_
  · (intro w _; go_simp; try with_reducible rfl)
  try simp only [Act.put, List.getElem_toArray, List.getElem_cons_succ, List.getElem_cons_zero, List.setIfInBounds_toArray, List.set_cons_zero, List.set_cons_succ]
  refine Reg.take0 (i := 11) (v := .bool true) rfl (by kernel_rfl) (by kernel_rfl) (by kernel_rfl) (by kernel_rfl) (fun _ _ _ h => h) (Or.inl ⟨by rfl, ?_⟩) ?_
  · (intro w _; go_simp; try with_reducible rfl)
  try simp only [Act.put, List.getElem_toArray, List.getElem_cons_succ, List.getElem_cons_zero, List.setIfInBounds_toArray, List.set_cons_zero, List.set_cons_succ]
  refine Reg.take0 (i := 12) (v := ?_) rfl (by kernel_rfl) (by kernel_rfl) (by kernel_rfl) (by kernel_rfl) (fun _ _ _ h => h) (Or.inl ⟨by rfl, ?_⟩) ?_
  rotate_left
  · (intro w _; go_simp; try with_reducible rfl)
  try simp only [Act.put, List.getElem_toArray, List.getElem_cons_succ, List.getElem_cons_zero, List.setIfInBounds_toArray, List.set_cons_zero, List.set_cons_succ]
  refine Reg.done (by kernel_rfl) ?_ _
  go_wp2_with fail
  go_ret2
  exact ⟨rfl, hbd⟩
set_option maxRecDepth 100000 in
set_option maxHeartbeats 4000000 in
theorem f19_new {B : Nat} {Pr : Nat → Prop} (w : World) {R : RingS} (H : Hid (RingAt B Pr w R)) {n : Nat} (hn : 1 ≤ n ∧ n ≤ 4096) (hl : usedN R.rows + takesN n ≤ R.size) (hl30 : R.rs.length + 1 < 2 ^ 30) :
    Calls Try.prog 19 #[.pointer (some ⟨R.rg, 0, none⟩), .int .i64 n] w fun e w' => e = .returned (.tuple #[.int .i64 ((R.rs.length + 1 : Nat) : Int), .int .i64 0]) ∧ Only R.spine w w' ∧
      ∃ rb bb xb v' rv', RingAt B Pr w' { R with rows := R.rows ++ [⟨xb, R.rs.length + 1, n, 0, 0, fun _ => 0⟩], rs := R.rs ++ [⟨rb, bb, n, false, fun _ => 0⟩], v := v', rv := rv', es := R.es ++ [(R.rs.length + 1, xb, R.clock)], clock := R.clock + 1 } := by
  obtain ⟨d, hd⟩ : ∃ d, Hid (R.rs.length + 1 = d) := ⟨_, Lib.hid rfl⟩
  have H1 := H
  obtain ⟨u, hu⟩ : ∃ u, Hid (usedN R.rows = u) := ⟨_, Lib.hid rfl⟩
  obtain ⟨m, hm⟩ : ∃ m, Hid (u + takesN n = m) := ⟨_, Lib.hid rfl⟩
  have e1 : ¬ (n : Int) < 1 := by omega
  have e2 : ¬ (4096 < (n : Int)) := by omega
  have htk : takesN n ≤ 4104 + 7 := by unfold takesN; omega
  have hfit := H.out.fits
  have hu4 : u ≤ 4096 := by rw [hu.out] at hfit; omega
  have e3 : IntKind.i64.wrap ((u : Int) + (takesN n : Int)) = (m : Int) := by rw [IntKind.wrap_i64]; have := hm.out; omega
  have e4 : Hid (m ≤ R.size) := Lib.hid <| by have := hu.out; have := hm.out; omega
  clear hfit htk
  go_enter Try.func19, Try.ntmps19
  go_wp2_with fail
  refine Reg.start (S := (fun w' => w'.cell? ⟨R.rg, 1, none⟩ = some (.int .i64 (u : Int)) ∧ w'.cell? ⟨R.rg, 0, none⟩ = some (.int .i64 (R.size : Int)))) (B := (fun _ => false)) (by kernel_rfl) ?_
  have hbd : Below w.heap.size w w.drew := (Below.refl _ _).drew
  have hH1 := Lib.hid (H1.out.below hbd)
  have c1 : w.drew.cell? ⟨R.rg, 1, none⟩ = some (.int .i64 (u : Int)) := hu.out ▸ hH1.out.c1
  have c0 := hH1.out.c0
  revert hbd hH1 c1 c0
  generalize w.drew = w1
  intro hbd hH1 c1 c0
  refine Reg.take0 (i := 0) (v := ?_) rfl (by kernel_rfl) (by kernel_rfl) (by kernel_rfl) (by kernel_rfl) (fun _ _ _ h => h) (Or.inl ⟨by rfl, ?_⟩) ?_
  rotate_left
  · (intro w _; go_simp; try with_reducible rfl)
  try simp only [Act.put, List.getElem_toArray, List.getElem_cons_succ, List.getElem_cons_zero, List.setIfInBounds_toArray, List.set_cons_zero, List.set_cons_succ]
  refine Reg.take0 (i := 1) (v := ?_) rfl (by kernel_rfl) (by kernel_rfl) (by kernel_rfl) (by kernel_rfl) (fun _ _ _ h => h) (Or.inl ⟨by rfl, ?_⟩) ?_
  rotate_left
  · (intro w _; go_simp; try with_reducible rfl)
  try simp only [Act.put, List.getElem_toArray, List.getElem_cons_succ, List.getElem_cons_zero, List.setIfInBounds_toArray, List.set_cons_zero, List.set_cons_succ]
  refine Reg.take0 (i := 2) (v := ?_) rfl (by kernel_rfl) (by kernel_rfl) (by kernel_rfl) (by kernel_rfl) (fun _ _ _ h => h) (Or.inl ⟨by rfl, ?_⟩) ?_
  rotate_left
  · (intro w _; go_simp; try with_reducible rfl)
  try simp only [Act.put, List.getElem_toArray, List.getElem_cons_succ, List.getElem_cons_zero, List.setIfInBounds_toArray, List.set_cons_zero, List.set_cons_succ]
  refine Reg.take1 (i := 3) (v := ?_) rfl (by kernel_rfl) (by kernel_rfl) (by kernel_rfl) (by kernel_rfl) (by kernel_rfl) (fun _ _ _ h => h) (Or.inl ⟨by rfl, ?_⟩) ⟨c1, c0⟩ ?_
  rotate_left
  · (intro w hS; obtain ⟨hs1, hs2⟩ := hS; go_simp; try with_reducible rfl)
  try simp only [Act.put, List.getElem_toArray, List.getElem_cons_succ, List.getElem_cons_zero, List.setIfInBounds_toArray, List.set_cons_zero, List.set_cons_succ]
  refine Reg.take0 (i := 4) (v := ?_) rfl (by kernel_rfl) (by kernel_rfl) (by kernel_rfl) (by kernel_rfl) (fun _ _ _ h => h) (Or.inl ⟨by rfl, ?_⟩) ?_
  rotate_left
  · (intro w _; go_simp; try with_reducible rfl)
  try simp only [Act.put, List.getElem_toArray, List.getElem_cons_succ, List.getElem_cons_zero, List.setIfInBounds_toArray, List.set_cons_zero, List.set_cons_succ]
  refine Reg.take0 (i := 7) (v := ?_) rfl (by kernel_rfl) (by kernel_rfl) (by kernel_rfl) (by kernel_rfl) (fun _ _ _ h => h) (Or.inl ⟨by rfl, ?_⟩) ?_
  rotate_left
  · (intro w _; go_simp; try with_reducible rfl)
  try simp only [Act.put, List.getElem_toArray, List.getElem_cons_succ, List.getElem_cons_zero, List.setIfInBounds_toArray, List.set_cons_zero, List.set_cons_succ]
  refine Reg.take0 (i := 8) (v := ?_) rfl (by kernel_rfl) (by kernel_rfl) (by kernel_rfl) (by kernel_rfl) (fun _ _ _ h => h) (Or.inl ⟨by rfl, ?_⟩) ?_
  rotate_left
  · (intro w _; go_simp; try with_reducible rfl)
  try simp only [Act.put, List.getElem_toArray, List.getElem_cons_succ, List.getElem_cons_zero, List.setIfInBounds_toArray, List.set_cons_zero, List.set_cons_succ]
  refine Reg.take0 (i := 9) (v := ?_) rfl (by kernel_rfl) (by kernel_rfl) (by kernel_rfl) (by kernel_rfl) (fun _ _ _ h => h) (Or.inl ⟨by rfl, ?_⟩) ?_
  rotate_left
  · (intro w _; go_simp; try with_reducible rfl)
  try simp only [Act.put, List.getElem_toArray, List.getElem_cons_succ, List.getElem_cons_zero, List.setIfInBounds_toArray, List.set_cons_zero, List.set_cons_succ]
  refine Reg.take1 (i := 10) (v := ?_) rfl (by kernel_rfl) (by kernel_rfl) (by kernel_rfl) (by kernel_rfl) (by kernel_rfl) (fun _ _ _ h => h) (Or.inl ⟨by rfl, ?_⟩) ⟨c1, c0⟩ ?_
  rotate_left
  · (intro w hS; obtain ⟨hs1, hs2⟩ := hS; go_simp; try with_reducible rfl)
  try simp only [Act.put, List.getElem_toArray, List.getElem_cons_succ, List.getElem_cons_zero, List.setIfInBounds_toArray, List.set_cons_zero, List.set_cons_succ]
  refine Reg.only (i := 5) (by kernel_rfl) rfl (fun K hK => ?_)
  go_simp
  refine (f49_ok w1 (n := n) (by omega)).mono ?_; rintro e w' ⟨rfl, rfl⟩
  simp only []
  refine hK _ _ (fun _ hS => hS) ?_
  clear hK K
  try simp only [Act.put, List.getElem_toArray, List.getElem_cons_succ, List.getElem_cons_zero, List.setIfInBounds_toArray, List.set_cons_zero, List.set_cons_succ]
  refine Reg.take0 (i := 6) (v := .int .i64 (m : Int)) rfl (by kernel_rfl) (by kernel_rfl) (by kernel_rfl) (by kernel_rfl) (fun _ _ _ h => h) (Or.inl ⟨by rfl, ?_⟩) ?_
  · (intro w _; go_simp; try with_reducible rfl)
  try simp only [Act.put, List.getElem_toArray, List.getElem_cons_succ, List.getElem_cons_zero, List.setIfInBounds_toArray, List.set_cons_zero, List.set_cons_succ]
  refine Reg.take0 (i := 11) (v := .bool false) rfl (by kernel_rfl) (by kernel_rfl) (by kernel_rfl) (by kernel_rfl) (fun _ _ _ h => h) (Or.inl ⟨by rfl, ?_⟩) ?_
  · (intro w _; go_simp; exact e4.out; try with_reducible rfl)
  try simp only [Act.put, List.getElem_toArray, List.getElem_cons_succ, List.getElem_cons_zero, List.setIfInBounds_toArray, List.set_cons_zero, List.set_cons_succ]
  refine Reg.take0 (i := 12) (v := ?_) rfl (by kernel_rfl) (by kernel_rfl) (by kernel_rfl) (by kernel_rfl) (fun _ _ _ h => h) (Or.inl ⟨by rfl, ?_⟩) ?_
  rotate_left
  · (intro w _; go_simp; try with_reducible rfl)
  try simp only [Act.put, List.getElem_toArray, List.getElem_cons_succ, List.getElem_cons_zero, List.setIfInBounds_toArray, List.set_cons_zero, List.set_cons_succ]
  refine Reg.done (by kernel_rfl) ?_ _
  go_wp2_with fail
  refine Reg.start (S := (fun w' => w'.cell? ⟨R.rg, 2, none⟩ = some (.pointer (some ⟨R.mb, 0, none⟩)))) (B := (fun _ => false)) (by kernel_rfl) ?_
  have hbd2 : Below w.heap.size w w1.drew := hbd.drew
  have hH2 := Lib.hid (hH1.out.below (Below.refl _ _).drew)
  have c2 := hH2.out.c2
  revert hbd2 hH2 c2
  generalize w1.drew = w2
  intro hbd2 hH2 c2
  clear hH1 c0 c1 hbd
  obtain ⟨w3, hmk, hbt, hth, hk5, hb3, hlt3⟩ := make_bytes w2 (n := n) (v := n) (by omega) rfl
  have hBT := Lib.hid hbt
  have hH3 := Lib.hid (hH2.out.below hb3)
  have hB3 : Hid (Below w.heap.size w w3) := Lib.hid (hbd2.trans (hb3.mono hbd2.size))
  have hS3 := Lib.hid hlt3
  clear hbt hth hk5 hlt3
  refine Reg.take0 (i := 0) (v := ?_) rfl (by kernel_rfl) (by kernel_rfl) (by kernel_rfl) (by kernel_rfl) (fun _ _ _ h => h) (Or.inl ⟨by rfl, ?_⟩) ?_
  rotate_left
  · (intro w _; go_simp; try with_reducible rfl)
  try simp only [Act.put, List.getElem_toArray, List.getElem_cons_succ, List.getElem_cons_zero, List.setIfInBounds_toArray, List.set_cons_zero, List.set_cons_succ]
  refine Reg.take0 (i := 1) (v := ?_) rfl (by kernel_rfl) (by kernel_rfl) (by kernel_rfl) (by kernel_rfl) (fun _ _ _ h => h) (Or.inl ⟨by rfl, ?_⟩) ?_
  rotate_left
  · (intro w _; go_simp; try with_reducible rfl)
  try simp only [Act.put, List.getElem_toArray, List.getElem_cons_succ, List.getElem_cons_zero, List.setIfInBounds_toArray, List.set_cons_zero, List.set_cons_succ]
  refine Reg.take0 (i := 2) (v := ?_) rfl (by kernel_rfl) (by kernel_rfl) (by kernel_rfl) (by kernel_rfl) (fun _ _ _ h => h) (Or.inl ⟨by rfl, ?_⟩) ?_
  rotate_left
  · (intro w _; go_simp; try with_reducible rfl)
  try simp only [Act.put, List.getElem_toArray, List.getElem_cons_succ, List.getElem_cons_zero, List.setIfInBounds_toArray, List.set_cons_zero, List.set_cons_succ]
  refine Reg.take1 (i := 3) (v := ?_) rfl (by kernel_rfl) (by kernel_rfl) (by kernel_rfl) (by kernel_rfl) (by kernel_rfl) (fun _ _ _ h => h) (Or.inl ⟨by rfl, ?_⟩) c2 ?_
  rotate_left
  · (intro w hS; have hs1 := hS; go_simp; try with_reducible rfl)
  try simp only [Act.put, List.getElem_toArray, List.getElem_cons_succ, List.getElem_cons_zero, List.setIfInBounds_toArray, List.set_cons_zero, List.set_cons_succ]
  refine Reg.take0 (i := 4) (v := ?_) rfl (by kernel_rfl) (by kernel_rfl) (by kernel_rfl) (by kernel_rfl) (fun _ _ _ h => h) (Or.inl ⟨by rfl, ?_⟩) ?_
  rotate_left
  · (intro w _; go_simp; try with_reducible rfl)
  try simp only [Act.put, List.getElem_toArray, List.getElem_cons_succ, List.getElem_cons_zero, List.setIfInBounds_toArray, List.set_cons_zero, List.set_cons_succ]
  refine Reg.take0 (i := 7) (v := ?_) rfl (by kernel_rfl) (by kernel_rfl) (by kernel_rfl) (by kernel_rfl) (fun _ _ _ h => h) (Or.inl ⟨by rfl, ?_⟩) ?_
  rotate_left
  · (intro w _; go_simp; try with_reducible rfl)
  try simp only [Act.put, List.getElem_toArray, List.getElem_cons_succ, List.getElem_cons_zero, List.setIfInBounds_toArray, List.set_cons_zero, List.set_cons_succ]
  refine Reg.only (i := 5) (by kernel_rfl) rfl (fun K hK => ?_)
  go_simp
  refine hK _ _ (fun _ hS => by rw [hb3.cell (World.block_lt_of_cell? _ _ hS)]; exact hS) ?_
  clear hK K
  try simp only [Act.put, List.getElem_toArray, List.getElem_cons_succ, List.getElem_cons_zero, List.setIfInBounds_toArray, List.set_cons_zero, List.set_cons_succ]
  refine Reg.only (i := 6) (by kernel_rfl) rfl (fun K hK => ?_)
  go_simp
  refine (f43b_ok B w3 (Lib.hid hH3.out.mem) (Lib.hid (by rw [RingS.l_len]; exact hl30)) (Lib.hid (hH3.out.ge (new_np hH3.out (Nat.le_refl _)))) hBT (Lib.hid (by omega)) (Lib.hid fun _ _ => by decide) true).mono ?_; rintro e w4 ⟨rb, bb, v4, hv4, rfl, M4, R4, hrb, hbb, O4⟩
  have O4' := O4
  simp only []
  refine hK _ _ (fun _ hS => by
    rw [O4'.cell (World.block_lt_of_cell? _ _ hS) (fun he => ?_)]
    · exact hS
    · rcases he with he | he
      · exact absurd (hH3.out.kind.inj (he ▸ hH3.out.mem.kind)) (by decide)
      · exact absurd (hH3.out.kind.inj (own_kind hH3.out.mem.own he).1) (by decide)) ?_
  clear hK K O4'
  try simp only [Act.put, List.setIfInBounds_toArray, List.set_cons_zero, List.set_cons_succ]
  rw [RingS.l_len, hd.out]
  have hM4 := Lib.hid M4
  have hR4 := Lib.hid R4
  have hO4 := Lib.hid O4
  have hV4 := Lib.hid hv4
  have hbs4 := Lib.hid (And.intro hrb hbb)
  clear M4 R4 O4 hv4 hrb hbb hmk hb3
  refine Reg.take0 (i := 8) (v := ?_) rfl (by kernel_rfl) (by kernel_rfl) (by kernel_rfl) (by kernel_rfl) (fun _ _ _ h => h) (Or.inl ⟨by rfl, ?_⟩) ?_
  rotate_left
  · (intro w _; go_simp; try with_reducible rfl)
  try simp only [Act.put, List.getElem_toArray, List.getElem_cons_succ, List.getElem_cons_zero, List.setIfInBounds_toArray, List.set_cons_zero, List.set_cons_succ]
  refine Reg.only (i := 9) (by kernel_rfl) rfl (fun K hK => ?_)
  go_simp
  refine hK _ _ (fun _ h => kpa h) ?_
  clear hK K
  try simp only [Act.put, List.getElem_toArray, List.getElem_cons_succ, List.getElem_cons_zero, List.setIfInBounds_toArray, List.set_cons_zero, List.set_cons_succ]
  refine Reg.take0 (i := 10) (v := ?_) rfl (by kernel_rfl) (by kernel_rfl) (by kernel_rfl) (by kernel_rfl) (fun _ _ _ h => h) (Or.inl ⟨by rfl, ?_⟩) ?_
  rotate_left
  · (intro w _; go_simp; try with_reducible rfl)
  try simp only [Act.put, List.getElem_toArray, List.getElem_cons_succ, List.getElem_cons_zero, List.setIfInBounds_toArray, List.set_cons_zero, List.set_cons_succ]
  refine Reg.done (by kernel_rfl) ?_ _
  have hO5 : Only (fun k => k = R.mb ∨ R.v.ownBlock = some k) w3 (w4.alloc (.cells #[.int .i64 ((d : Nat) : Int), .int .i64 n, .int .i64 0, .slice none 0 0] 85)) := hO4.out.alloc _
  have hX5 : ∀ j, (w4.alloc (.cells #[.int .i64 ((d : Nat) : Int), .int .i64 n, .int .i64 0, .slice none 0 0] 85)).cell? ⟨w4.heap.size, j, none⟩ = (#[.int .i64 ((d : Nat) : Int), .int .i64 n, .int .i64 0, .slice none 0 0] : Array Value)[j]? := fun j => by rw [World.cell?_alloc_at _ _ _ _ rfl]
  have hK5 : KindAt (w4.alloc (.cells #[.int .i64 ((d : Nat) : Int), .int .i64 n, .int .i64 0, .slice none 0 0] 85)) w4.heap.size 85 := KindAt.new _ _ _
  have hT5 : Thaw (w4.alloc (.cells #[.int .i64 ((d : Nat) : Int), .int .i64 n, .int .i64 0, .slice none 0 0] 85)) w4.heap.size := Thaw.new _ _ _
  have hM5 := hM4.out.below (Below.one (w := w4) (.cells #[.int .i64 ((d : Nat) : Int), .int .i64 n, .int .i64 0, .slice none 0 0] 85))
  have hR5 := hR4.out.only (Only.of_below (S := fun _ => False) (Below.one (w := w4) (.cells #[.int .i64 ((d : Nat) : Int), .int .i64 n, .int .i64 0, .slice none 0 0] 85))) (fun h => h) (fun h => h)
  have hs5 : w3.heap.size ≤ w4.heap.size := hO4.out.size
  revert hO5 hX5 hK5 hT5 hM5 hR5 hs5
  generalize w4.alloc (.cells #[.int .i64 ((d : Nat) : Int), .int .i64 n, .int .i64 0, .slice none 0 0] 85) = w5
  generalize w4.heap.size = xb
  intro hO5 hX5 hK5 hT5 hM5 hR5 hs5
  clear hM4 hR4 hO4
  have hO5 := Lib.hid hO5
  have hX5 := Lib.hid hX5
  have hK5 := Lib.hid hK5
  have hT5 := Lib.hid hT5
  have hM5 := Lib.hid hM5
  have hR5 := Lib.hid hR5
  have hs5 := Lib.hid hs5
  go_wp2_with fail
  refine Reg.start (S := (fun w' => (w'.cell? ⟨R.rg, 4, none⟩ = some (.map (some R.mp)) ∧ w'.cell? ⟨xb, 0, none⟩ = some (.int .i64 ((d : Nat) : Int))) ∧ w'.cell? ⟨R.rg, 3, none⟩ = some R.rv ∧ w'.cell? ⟨R.rg, 1, none⟩ = some (.int .i64 (u : Int)))) (B := (fun j => [27, 30, 31, 33].contains j)) (by kernel_rfl) ?_
  have hO6 : Only (fun k => k = R.mb ∨ R.v.ownBlock = some k) w3 w5.drew := hO5.out.drew
  have hX6 : ∀ j, w5.drew.cell? ⟨xb, j, none⟩ = (#[.int .i64 ((d : Nat) : Int), .int .i64 n, .int .i64 0, .slice none 0 0] : Array Value)[j]? := hX5.out
  have hK6 : KindAt w5.drew xb 85 := hK5.out
  have hT6 : Thaw w5.drew xb := hT5.out
  have hM6 : MemRow B w5.drew R.mb v4 (R.l ++ [(false, rb)]) := hM5.out.below (Below.refl _ _).drew
  have hR6 : RegAt w5.drew rb bb false true n (fun _ => 0) := hR5.out.drew
  have hne : R.mb ≠ R.rg ∧ ∀ k, R.v.ownBlock = some k → k ≠ R.rg := ⟨fun he => absurd (hH3.out.mem.kind.inj (he ▸ hH3.out.kind)) (by decide), fun k hk he => absurd ((own_kind hH3.out.mem.own hk).1.inj (he ▸ hH3.out.kind)) (by decide)⟩
  have hcc : ∀ j, w5.drew.cell? ⟨R.rg, j, none⟩ = w3.cell? ⟨R.rg, j, none⟩ := fun j => hO6.cell (p := ⟨R.rg, j, none⟩) hH3.out.kind.lt (fun he => by rcases he with he | he; exact hne.1 he.symm; exact hne.2 _ he rfl)
  have hTg : Thaw w5.drew R.rg := hH3.out.thaw.only hO6 hH3.out.kind.lt (fun he => by rcases he with he | he; exact hne.1 he.symm; exact hne.2 _ he rfl)
  have hKg : KindAt w5.drew R.rg 80 := hO6.kind _ _ (by decide) hH3.out.kind
  have b4 : w5.drew.cell? ⟨R.rg, 4, none⟩ = some (.map (some R.mp)) := (hcc 4).trans hH3.out.c4
  have b3 : w5.drew.cell? ⟨R.rg, 3, none⟩ = some R.rv := (hcc 3).trans hH3.out.c3
  have b1 : w5.drew.cell? ⟨R.rg, 1, none⟩ = some (.int .i64 (u : Int)) := by rw [hcc 1, ← hu.out]; exact hH3.out.c1
  have b0 : w5.drew.cell? ⟨R.rg, 0, none⟩ = some (.int .i64 (R.size : Int)) := (hcc 0).trans hH3.out.c0
  have b2 : w5.drew.cell? ⟨R.rg, 2, none⟩ = some (.pointer (some ⟨R.mb, 0, none⟩)) := (hcc 2).trans hH3.out.c2
  have hmp6 : w5.drew.heap[R.mp]? = some (.map (R.es.map ent).toArray R.clock) := by
    rw [hO6.block R.mp (Array.getElem?_eq_some_iff.1 hH3.out.map).1 (fun he => by
      rcases he with he | he
      · exact kind_map hH3.out.mem.kind (he ▸ hH3.out.map)
      · exact kind_map (own_kind hH3.out.mem.own he).1 hH3.out.map)]
    exact hH3.out.map
  have hrw6 : RowAt B 86 w5.drew R.rv (R.rows.map Rec.ptr) := hH3.out.row.only hO6 fun k hk he => by
    have h1 := (hH3.out.row.own hk).1
    rcases he with he | he
    · exact absurd (h1.inj (he ▸ hH3.out.mem.kind)) (by decide)
    · exact absurd (h1.inj (own_kind hH3.out.mem.own he).1) (by decide)
  have x0 : w5.drew.cell? ⟨xb, 0, none⟩ = some (.int .i64 ((d : Nat) : Int)) := hX6 0
  revert hO6 hX6 hK6 hT6 hM6 hR6 hcc hTg hKg b4 b3 b1 b0 b2 hmp6 hrw6 x0
  generalize w5.drew = w6
  intro hO6 hX6 hK6 hT6 hM6 hR6 hcc hTg hKg b4 b3 b1 b0 b2 hmp6 hrw6 x0
  have hO6 := Lib.hid hO6
  have hX6 := Lib.hid hX6
  have hK6 := Lib.hid hK6
  have hT6 := Lib.hid hT6
  have hM6 := Lib.hid hM6
  have hR6 := Lib.hid hR6
  have hTg := Lib.hid hTg
  have hKg := Lib.hid hKg
  have hmp6 := Lib.hid hmp6
  have hrw6 := Lib.hid hrw6
  have b0 := Lib.hid b0
  have b2 := Lib.hid b2
  clear hcc hX5 hO5 hK5 hT5 hM5 hR5 c2 hne hbd2
  refine Reg.take0 (i := 0) (v := ?_) rfl (by kernel_rfl) (by kernel_rfl) (by kernel_rfl) (by kernel_rfl) (fun _ _ _ h => h) (Or.inl ⟨by rfl, ?_⟩) ?_
  rotate_left
  · (intro w _; go_simp; try with_reducible rfl)
  try simp only [Act.put, List.getElem_toArray, List.getElem_cons_succ, List.getElem_cons_zero, List.setIfInBounds_toArray, List.set_cons_zero, List.set_cons_succ]
  refine Reg.take0 (i := 1) (v := ?_) rfl (by kernel_rfl) (by kernel_rfl) (by kernel_rfl) (by kernel_rfl) (fun _ _ _ h => h) (Or.inl ⟨by rfl, ?_⟩) ?_
  rotate_left
  · (intro w _; go_simp; try with_reducible rfl)
  try simp only [Act.put, List.getElem_toArray, List.getElem_cons_succ, List.getElem_cons_zero, List.setIfInBounds_toArray, List.set_cons_zero, List.set_cons_succ]
  refine Reg.take0 (i := 2) (v := ?_) rfl (by kernel_rfl) (by kernel_rfl) (by kernel_rfl) (by kernel_rfl) (fun _ _ _ h => h) (Or.inl ⟨by rfl, ?_⟩) ?_
  rotate_left
  · (intro w _; go_simp; try with_reducible rfl)
  try simp only [Act.put, List.getElem_toArray, List.getElem_cons_succ, List.getElem_cons_zero, List.setIfInBounds_toArray, List.set_cons_zero, List.set_cons_succ]
  refine Reg.take0 (i := 3) (v := ?_) rfl (by kernel_rfl) (by kernel_rfl) (by kernel_rfl) (by kernel_rfl) (fun _ _ _ h => h) (Or.inl ⟨by rfl, ?_⟩) ?_
  rotate_left
  · (intro w _; go_simp; try with_reducible rfl)
  try simp only [Act.put, List.getElem_toArray, List.getElem_cons_succ, List.getElem_cons_zero, List.setIfInBounds_toArray, List.set_cons_zero, List.set_cons_succ]
  refine Reg.take0 (i := 4) (v := ?_) rfl (by kernel_rfl) (by kernel_rfl) (by kernel_rfl) (by kernel_rfl) (fun _ _ _ h => h) (Or.inl ⟨by rfl, ?_⟩) ?_
  rotate_left
  · (intro w _; go_simp; try with_reducible rfl)
  try simp only [Act.put, List.getElem_toArray, List.getElem_cons_succ, List.getElem_cons_zero, List.setIfInBounds_toArray, List.set_cons_zero, List.set_cons_succ]
  refine Reg.take1 (i := 5) (v := ?_) rfl (by kernel_rfl) (by kernel_rfl) (by kernel_rfl) (by kernel_rfl) (by kernel_rfl) (fun _ _ _ h => h) (Or.inl ⟨by rfl, ?_⟩) ⟨⟨b4, x0⟩, b3, b1⟩ ?_
  rotate_left
  · (intro w hS; obtain ⟨⟨hs1, hs2⟩, hs3, hs4⟩ := hS; go_simp; try with_reducible rfl)
  try simp only [Act.put, List.getElem_toArray, List.getElem_cons_succ, List.getElem_cons_zero, List.setIfInBounds_toArray, List.set_cons_zero, List.set_cons_succ]
  refine Reg.take0 (i := 6) (v := ?_) rfl (by kernel_rfl) (by kernel_rfl) (by kernel_rfl) (by kernel_rfl) (fun _ _ _ h => h) (Or.inl ⟨by rfl, ?_⟩) ?_
  rotate_left
  · (intro w _; go_simp; try with_reducible rfl)
  try simp only [Act.put, List.getElem_toArray, List.getElem_cons_succ, List.getElem_cons_zero, List.setIfInBounds_toArray, List.set_cons_zero, List.set_cons_succ]
  refine Reg.take0 (i := 7) (v := ?_) rfl (by kernel_rfl) (by kernel_rfl) (by kernel_rfl) (by kernel_rfl) (fun _ _ _ h => h) (Or.inl ⟨by rfl, ?_⟩) ?_
  rotate_left
  · (intro w _; go_simp; try with_reducible rfl)
  try simp only [Act.put, List.getElem_toArray, List.getElem_cons_succ, List.getElem_cons_zero, List.setIfInBounds_toArray, List.set_cons_zero, List.set_cons_succ]
  refine Reg.take0 (i := 8) (v := ?_) rfl (by kernel_rfl) (by kernel_rfl) (by kernel_rfl) (by kernel_rfl) (fun _ _ _ h => h) (Or.inl ⟨by rfl, ?_⟩) ?_
  rotate_left
  · (intro w _; go_simp; try with_reducible rfl)
  try simp only [Act.put, List.getElem_toArray, List.getElem_cons_succ, List.getElem_cons_zero, List.setIfInBounds_toArray, List.set_cons_zero, List.set_cons_succ]
  refine Reg.take1 (i := 9) (v := ?_) rfl (by kernel_rfl) (by kernel_rfl) (by kernel_rfl) (by kernel_rfl) (by kernel_rfl) (fun _ _ _ h => h) (Or.inl ⟨by rfl, ?_⟩) ⟨⟨b4, x0⟩, b3, b1⟩ ?_
  rotate_left
  · (intro w hS; obtain ⟨⟨hs1, hs2⟩, hs3, hs4⟩ := hS; go_simp; try with_reducible rfl)
  try simp only [Act.put, List.getElem_toArray, List.getElem_cons_succ, List.getElem_cons_zero, List.setIfInBounds_toArray, List.set_cons_zero, List.set_cons_succ]
  refine Reg.take0 (i := 10) (v := ?_) rfl (by kernel_rfl) (by kernel_rfl) (by kernel_rfl) (by kernel_rfl) (fun _ _ _ h => h) (Or.inl ⟨by rfl, ?_⟩) ?_
  rotate_left
  · (intro w _; go_simp; try with_reducible rfl)
  try simp only [Act.put, List.getElem_toArray, List.getElem_cons_succ, List.getElem_cons_zero, List.setIfInBounds_toArray, List.set_cons_zero, List.set_cons_succ]
  refine Reg.take0 (i := 11) (v := ?_) rfl (by kernel_rfl) (by kernel_rfl) (by kernel_rfl) (by kernel_rfl) (fun _ _ _ h => h) (Or.inl ⟨by rfl, ?_⟩) ?_
  rotate_left
  · (intro w _; go_simp; try with_reducible rfl)
  try simp only [Act.put, List.getElem_toArray, List.getElem_cons_succ, List.getElem_cons_zero, List.setIfInBounds_toArray, List.set_cons_zero, List.set_cons_succ]
  refine Reg.take0 (i := 12) (v := ?_) rfl (by kernel_rfl) (by kernel_rfl) (by kernel_rfl) (by kernel_rfl) (fun _ _ _ h => h) (Or.inl ⟨by rfl, ?_⟩) ?_
  rotate_left
  · (intro w _; go_simp; try with_reducible rfl)
  try simp only [Act.put, List.getElem_toArray, List.getElem_cons_succ, List.getElem_cons_zero, List.setIfInBounds_toArray, List.set_cons_zero, List.set_cons_succ]
  refine Reg.take1 (i := 13) (v := ?_) rfl (by kernel_rfl) (by kernel_rfl) (by kernel_rfl) (by kernel_rfl) (by kernel_rfl) (fun _ _ _ h => h) (Or.inl ⟨by rfl, ?_⟩) ⟨⟨b4, x0⟩, b3, b1⟩ ?_
  rotate_left
  · (intro w hS; obtain ⟨⟨hs1, hs2⟩, hs3, hs4⟩ := hS; go_simp; try with_reducible rfl)
  try simp only [Act.put, List.getElem_toArray, List.getElem_cons_succ, List.getElem_cons_zero, List.setIfInBounds_toArray, List.set_cons_zero, List.set_cons_succ]
  refine Reg.take0 (i := 14) (v := ?_) rfl (by kernel_rfl) (by kernel_rfl) (by kernel_rfl) (by kernel_rfl) (fun _ _ _ h => h) (Or.inl ⟨by rfl, ?_⟩) ?_
  rotate_left
  · (intro w _; go_simp; try with_reducible rfl)
  try simp only [Act.put, List.getElem_toArray, List.getElem_cons_succ, List.getElem_cons_zero, List.setIfInBounds_toArray, List.set_cons_zero, List.set_cons_succ]
  refine Reg.take0 (i := 17) (v := ?_) rfl (by kernel_rfl) (by kernel_rfl) (by kernel_rfl) (by kernel_rfl) (fun _ _ _ h => h) (Or.inl ⟨by rfl, ?_⟩) ?_
  rotate_left
  · (intro w _; go_simp; try with_reducible rfl)
  try simp only [Act.put, List.getElem_toArray, List.getElem_cons_succ, List.getElem_cons_zero, List.setIfInBounds_toArray, List.set_cons_zero, List.set_cons_succ]
  refine Reg.take0 (i := 18) (v := ?_) rfl (by kernel_rfl) (by kernel_rfl) (by kernel_rfl) (by kernel_rfl) (fun _ _ _ h => h) (Or.inl ⟨by rfl, ?_⟩) ?_
  rotate_left
  · (intro w _; go_simp; try with_reducible rfl)
  try simp only [Act.put, List.getElem_toArray, List.getElem_cons_succ, List.getElem_cons_zero, List.setIfInBounds_toArray, List.set_cons_zero, List.set_cons_succ]
  refine Reg.take0 (i := 19) (v := ?_) rfl (by kernel_rfl) (by kernel_rfl) (by kernel_rfl) (by kernel_rfl) (fun _ _ _ h => h) (Or.inl ⟨by rfl, ?_⟩) ?_
  rotate_left
  · (intro w _; go_simp; try with_reducible rfl)
  try simp only [Act.put, List.getElem_toArray, List.getElem_cons_succ, List.getElem_cons_zero, List.setIfInBounds_toArray, List.set_cons_zero, List.set_cons_succ]
  refine Reg.take1 (i := 20) (v := ?_) rfl (by kernel_rfl) (by kernel_rfl) (by kernel_rfl) (by kernel_rfl) (by kernel_rfl) (fun _ _ _ h => h) (Or.inl ⟨by rfl, ?_⟩) ⟨⟨b4, x0⟩, b3, b1⟩ ?_
  rotate_left
  · (intro w hS; obtain ⟨⟨hs1, hs2⟩, hs3, hs4⟩ := hS; go_simp; try with_reducible rfl)
  try simp only [Act.put, List.getElem_toArray, List.getElem_cons_succ, List.getElem_cons_zero, List.setIfInBounds_toArray, List.set_cons_zero, List.set_cons_succ]
  refine Reg.take0 (i := 21) (v := ?_) rfl (by kernel_rfl) (by kernel_rfl) (by kernel_rfl) (by kernel_rfl) (fun _ _ _ h => h) (Or.inl ⟨by rfl, ?_⟩) ?_
  rotate_left
  · (intro w _; go_simp; try with_reducible rfl)
  try simp only [Act.put, List.getElem_toArray, List.getElem_cons_succ, List.getElem_cons_zero, List.setIfInBounds_toArray, List.set_cons_zero, List.set_cons_succ]
  refine Reg.take0 (i := 24) (v := ?_) rfl (by kernel_rfl) (by kernel_rfl) (by kernel_rfl) (by kernel_rfl) (fun _ _ _ h => h) (Or.inl ⟨by rfl, ?_⟩) ?_
  rotate_left
  · (intro w _; go_simp; try with_reducible rfl)
  try simp only [Act.put, List.getElem_toArray, List.getElem_cons_succ, List.getElem_cons_zero, List.setIfInBounds_toArray, List.set_cons_zero, List.set_cons_succ]
  refine Reg.only (i := 15) (by kernel_rfl) rfl (fun K hK => ?_)
  go_simp
  refine hK _ _ (fun _ hS => ⟨⟨kpa hS.1.1, kpa hS.1.2⟩, kpa hS.2.1, kpa hS.2.2⟩) ?_
  clear hK K
  try simp only [Act.put, List.getElem_toArray, List.getElem_cons_succ, List.getElem_cons_zero, List.setIfInBounds_toArray, List.set_cons_zero, List.set_cons_succ]
  have hB6 : B ≤ w6.heap.size := by have h1 := hH3.out.ge (new_np hH3.out (Nat.le_refl _)); have h2 := hO6.out.size; omega
  have hal := Below.one (w := w6) (.cells #[.pointer (some ⟨xb, 0, none⟩)] 86)
  obtain ⟨rv', w7, hap, hrw7, hg7, hrv7⟩ := (hrw6.out.below hal).append (t := 78) (by simp; omega) Try.t86 (.pointer none) 8 Try.underlying78 info86 zero86' size86 bytes86 rfl (by decide)
    (by rw [List.length_map]; exact (usedN_len hH3.out)) (.pointer (some ⟨xb, 0, none⟩)) rfl (nb := w6.heap.size) (by rw [World.cell?_alloc_at _ _ _ _ rfl]; rfl) (fun he => by have := (hrw6.out.own he).1.lt; omega)
  have hap := hap 78
  obtain ⟨a7, q7, c7, rfl⟩ : ∃ a q c, rv' = .slice a q c := by obtain ⟨a, c, h⟩ := hrw7.len; exact ⟨a, _, c, h⟩
  have hKv6 : ∀ k, R.rv.ownBlock = some k → KindAt (w6.alloc (.cells #[.pointer (some ⟨xb, 0, none⟩)] 86)) k 86 := fun k hk => ((hrw6.out.own hk).1).alloc _
  have hng : some R.rg ≠ R.rv.ownBlock := fun he => absurd ((hKv6 _ he.symm).inj (hKg.out.alloc _)) (by decide)
  have hnx : some xb ≠ R.rv.ownBlock := fun he => absurd ((hKv6 _ he.symm).inj (hK6.out.alloc _)) (by decide)
  refine Reg.only (i := 16) (by kernel_rfl) rfl (fun K hK => ?_)
  rw [if_pos (by rfl)]
  refine wp_append_run (.tmp 50) (.tmp 52) 78 rfl _ _ _ rfl rfl hap ?_
  refine hK _ _ (fun _ hS => ⟨⟨hg7.cell hS.1.1 hng, hg7.cell hS.1.2 hnx⟩, hg7.cell hS.2.1 hng, hg7.cell hS.2.2 hng⟩) ?_
  clear hK K
  try simp only [Act.put, List.getElem_toArray, List.getElem_cons_succ, List.getElem_cons_zero, List.setIfInBounds_toArray, List.set_cons_zero, List.set_cons_succ]
  have O7 : Only R.spine w3 w7 := ((((hO6.out).alloc (.cells #[.pointer (some ⟨xb, 0, none⟩)] 86)).mono fun k _ h => h.elim (fun h => .inr (.inr (.inl h))) (fun h => .inr (.inr (.inr (.inl h))))).grown hg7 fun k hk => ⟨fun _ => .inr (.inr (.inr (.inr hk))), .inr ⟨86, by decide, hKv6 k hk⟩⟩)
  have OX7 : Only (fun k => R.rv.ownBlock = some k) w6 w7 := ((Only.refl _ w6).alloc (.cells #[.pointer (some ⟨xb, 0, none⟩)] 86)).grown hg7 fun k hk => ⟨fun _ => hk, .inr ⟨86, by decide, hKv6 k hk⟩⟩
  have hkx : R.rv.ownBlock ≠ some xb := fun he => hnx he.symm
  have hkg : R.rv.ownBlock ≠ some R.rg := fun he => hng he.symm
  have d0 : w7.cell? ⟨R.rg, 0, none⟩ = some (.int .i64 (R.size : Int)) := (OX7.cell (p := ⟨R.rg, 0, none⟩) hKg.out.lt hkg).trans b0.out
  have d1 : w7.cell? ⟨R.rg, 1, none⟩ = some (.int .i64 (u : Int)) := (OX7.cell (p := ⟨R.rg, 1, none⟩) hKg.out.lt hkg).trans b1
  have d2 : w7.cell? ⟨R.rg, 2, none⟩ = some (.pointer (some ⟨R.mb, 0, none⟩)) := (OX7.cell (p := ⟨R.rg, 2, none⟩) hKg.out.lt hkg).trans b2.out
  have d3 : w7.cell? ⟨R.rg, 3, none⟩ = some R.rv := (OX7.cell (p := ⟨R.rg, 3, none⟩) hKg.out.lt hkg).trans b3
  have d4 : w7.cell? ⟨R.rg, 4, none⟩ = some (.map (some R.mp)) := (OX7.cell (p := ⟨R.rg, 4, none⟩) hKg.out.lt hkg).trans b4
  have zg7 : Thaw w7 R.rg := hTg.out.only OX7 hKg.out.lt hkg
  have z3 := zg7 3
  have z1 := zg7 1
  have kg7 := OX7.kind _ _ (by decide) hKg.out
  have X7 : ∀ j, w7.cell? ⟨xb, j, none⟩ = (#[.int .i64 ((d : Nat) : Int), .int .i64 n, .int .i64 0, .slice none 0 0] : Array Value)[j]? := fun j => (OX7.cell (p := ⟨xb, j, none⟩) hK6.out.lt hkx).trans (hX6.out j)
  have K7 : KindAt w7 xb 85 := OX7.kind _ _ (by decide) hK6.out
  have T7 : Thaw w7 xb := hT6.out.only OX7 hK6.out.lt hkx
  have M7 : MemRow B w7 R.mb v4 (R.l ++ [(false, rb)]) := hM6.out.only OX7 (fun he => by have h1 := hrw6.out.own he; exact absurd (h1.1.inj hM6.out.kind) (by decide)) (fun k hk he => by have h1 := hrw6.out.own he; exact absurd (h1.1.inj (own_kind hM6.out.own hk).1) (by decide))
  have R7 : RegAt w7 rb bb false true n (fun _ => 0) := hR6.out.only OX7 (fun he => by have h1 := hrw6.out.own he; exact absurd (h1.1.inj hR6.out.kR) (by decide)) (fun he => by have h1 := hrw6.out.own he; exact absurd (h1.1.inj hR6.out.kB) (by decide))
  have mp7 : w7.heap[R.mp]? = some (.map (R.es.map ent).toArray R.clock) := by
    rw [OX7.block R.mp (Array.getElem?_eq_some_iff.1 hmp6.out).1 (fun he => kind_map (hrw6.out.own he).1 hmp6.out)]
    exact hmp6.out
  have es7 : ∀ x ∈ R.es, x.1 ≠ d := fun x hx he => by
    have h1 : (x.1, x.2.1) ∈ (R.rows.filter fun r => r.st == 0).map fun r => (r.id, r.xb) := by rw [← hH3.out.opens]; exact List.mem_map_of_mem hx
    obtain ⟨r, h2, h3⟩ := List.mem_map.1 h1
    have h4 := (hH3.out.link r (List.mem_filter.1 h2).1).2.1
    have h5 : r.id = x.1 := congrArg Prod.fst h3
    have := hd.out; omega
  have O7 := Lib.hid O7
  have zg7 := Lib.hid zg7
  have kg7 := Lib.hid kg7
  have X7 := Lib.hid X7
  have K7 := Lib.hid K7
  have T7 := Lib.hid T7
  have M7 := Lib.hid M7
  have R7 := Lib.hid R7
  have mp7 := Lib.hid mp7
  have es7 := Lib.hid es7
  have d0 := Lib.hid d0
  have d2 := Lib.hid d2
  have d4 := Lib.hid d4
  have hrw7 := Lib.hid hrw7
  have hrv7 := Lib.hid (hrv7.imp id fun ⟨k, a, b⟩ => ⟨k, a, by simp at b; omega⟩ : (Value.slice a7 q7 c7).ownBlock = R.rv.ownBlock ∨ ∃ k, (Value.slice a7 q7 c7).ownBlock = some k ∧ w6.heap.size ≤ k)
  have hs6 := Lib.hid hO6.out.size
  clear OX7 hkx hkg hng hnx hKv6 hap hg7 hal hM6 hR6 hTg hKg hmp6 hrw6 b0 b1 b2 b3 b4 hO6 hX6 hK6 hT6 x0
  refine Reg.only (i := 22) (by kernel_rfl) rfl (fun K hK => ?_)
  go_simp
  refine (f49_ok w7 (n := n) (by omega)).mono ?_; rintro e w' ⟨rfl, rfl⟩
  simp only []
  refine hK _ _ (fun _ hS => hS) ?_
  clear hK K
  try simp only [Act.put, List.getElem_toArray, List.getElem_cons_succ, List.getElem_cons_zero, List.setIfInBounds_toArray, List.set_cons_zero, List.set_cons_succ]
  refine Reg.take0 (i := 23) (v := .int .i64 (m : Int)) rfl (by kernel_rfl) (by kernel_rfl) (by kernel_rfl) (by kernel_rfl) (fun _ _ _ h => h) (Or.inl ⟨by rfl, ?_⟩) ?_
  · (intro w _; go_simp; try with_reducible rfl)
  try simp only [Act.put, List.getElem_toArray, List.getElem_cons_succ, List.getElem_cons_zero, List.setIfInBounds_toArray, List.set_cons_zero, List.set_cons_succ]
  refine Reg.take0 (i := 25) (v := ?_) rfl (by kernel_rfl) (by kernel_rfl) (by kernel_rfl) (by kernel_rfl) (fun _ _ _ h => h) (Or.inl ⟨by rfl, ?_⟩) ?_
  rotate_left
  · (intro w _; go_simp; try with_reducible rfl)
  try simp only [Act.put, List.getElem_toArray, List.getElem_cons_succ, List.getElem_cons_zero, List.setIfInBounds_toArray, List.set_cons_zero, List.set_cons_succ]
  refine Reg.take0 (i := 26) (v := ?_) rfl (by kernel_rfl) (by kernel_rfl) (by kernel_rfl) (by kernel_rfl) (fun _ _ _ h => h) (Or.inl ⟨by rfl, ?_⟩) ?_
  rotate_left
  · (intro w _; go_simp; try with_reducible rfl)
  try simp only [Act.put, List.getElem_toArray, List.getElem_cons_succ, List.getElem_cons_zero, List.setIfInBounds_toArray, List.set_cons_zero, List.set_cons_succ]
  refine Reg.only (i := 27) (by kernel_rfl) rfl (fun K hK => ?_)
  go_simp
  refine hK _ _ (fun hb => absurd hb (by decide)) ?_
  clear hK K
  try simp only [Act.put, List.getElem_toArray, List.getElem_cons_succ, List.getElem_cons_zero, List.setIfInBounds_toArray, List.set_cons_zero, List.set_cons_succ]
  refine Reg.take0 (i := 28) (v := ?_) rfl (by kernel_rfl) (by kernel_rfl) (by kernel_rfl) (by kernel_rfl) (fun _ _ _ h => h) (Or.inl ⟨by rfl, ?_⟩) ?_
  rotate_left
  · (intro w _; go_simp; try with_reducible rfl)
  try simp only [Act.put, List.getElem_toArray, List.getElem_cons_succ, List.getElem_cons_zero, List.setIfInBounds_toArray, List.set_cons_zero, List.set_cons_succ]
  refine Reg.take0 (i := 29) (v := ?_) rfl (by kernel_rfl) (by kernel_rfl) (by kernel_rfl) (by kernel_rfl) (fun _ _ _ h => h) (Or.inl ⟨by rfl, ?_⟩) ?_
  rotate_left
  · (intro w _; go_simp; try with_reducible rfl)
  try simp only [Act.put, List.getElem_toArray, List.getElem_cons_succ, List.getElem_cons_zero, List.setIfInBounds_toArray, List.set_cons_zero, List.set_cons_succ]
  refine Reg.only (i := 30) (by kernel_rfl) rfl (fun K hK => ?_)
  go_simp
  refine hK _ _ (fun hb => absurd hb (by decide)) ?_
  clear hK K
  try simp only [Act.put, List.getElem_toArray, List.getElem_cons_succ, List.getElem_cons_zero, List.setIfInBounds_toArray, List.set_cons_zero, List.set_cons_succ]
  have mp8 : ((w7.setCell ⟨R.rg, 3, none⟩ (.slice a7 q7 c7)).setCell ⟨R.rg, 1, none⟩ (.int .i64 (m : Int))).heap[R.mp]? = some (.map (R.es.map ent).toArray R.clock) := by
    have hne : R.mp ≠ R.rg := fun he => kind_map hH3.out.kind (he ▸ hH3.out.map)
    rw [Below.heap_setCell _ _ _ _ hne, Below.heap_setCell _ _ _ _ hne]; exact mp7.out
  have hen := entry_new mp8 es7.out
  rw [List.push_toArray] at hen
  have O8 : Only (· = R.rg) w7 ((w7.setCell ⟨R.rg, 3, none⟩ (.slice a7 q7 c7)).setCell ⟨R.rg, 1, none⟩ (.int .i64 (m : Int))) := Only.setCell (S := (· = R.rg)) (Only.setCell (S := (· = R.rg)) (Only.refl _ _) (fun _ => rfl) _) (fun _ => rfl) _
  have g0 : ((w7.setCell ⟨R.rg, 3, none⟩ (.slice a7 q7 c7)).setCell ⟨R.rg, 1, none⟩ (.int .i64 (m : Int))).cell? ⟨R.rg, 0, none⟩ = some (.int .i64 (R.size : Int)) := by rw [cell_ne _ (.inr (by decide)), cell_ne _ (.inr (by decide))]; exact d0.out
  have g1 : ((w7.setCell ⟨R.rg, 3, none⟩ (.slice a7 q7 c7)).setCell ⟨R.rg, 1, none⟩ (.int .i64 (m : Int))).cell? ⟨R.rg, 1, none⟩ = some (.int .i64 (m : Int)) := cell_same _ ((cell_ne _ (.inr (by decide))).trans d1)
  have g2 : ((w7.setCell ⟨R.rg, 3, none⟩ (.slice a7 q7 c7)).setCell ⟨R.rg, 1, none⟩ (.int .i64 (m : Int))).cell? ⟨R.rg, 2, none⟩ = some (.pointer (some ⟨R.mb, 0, none⟩)) := by rw [cell_ne _ (.inr (by decide)), cell_ne _ (.inr (by decide))]; exact d2.out
  have g3 : ((w7.setCell ⟨R.rg, 3, none⟩ (.slice a7 q7 c7)).setCell ⟨R.rg, 1, none⟩ (.int .i64 (m : Int))).cell? ⟨R.rg, 3, none⟩ = some (.slice a7 q7 c7) := by rw [cell_ne _ (.inr (by decide))]; exact cell_same _ d3
  have g4 : ((w7.setCell ⟨R.rg, 3, none⟩ (.slice a7 q7 c7)).setCell ⟨R.rg, 1, none⟩ (.int .i64 (m : Int))).cell? ⟨R.rg, 4, none⟩ = some (.map (some R.mp)) := by rw [cell_ne _ (.inr (by decide)), cell_ne _ (.inr (by decide))]; exact d4.out
  have zg8 : Thaw ((w7.setCell ⟨R.rg, 3, none⟩ (.slice a7 q7 c7)).setCell ⟨R.rg, 1, none⟩ (.int .i64 (m : Int))) R.rg := (zg7.out.setCell _ _).setCell _ _
  revert mp8 hen O8 g0 g1 g2 g3 g4 zg8
  generalize (w7.setCell ⟨R.rg, 3, none⟩ (.slice a7 q7 c7)).setCell ⟨R.rg, 1, none⟩ (.int .i64 (m : Int)) = w8
  intro mp8 hen O8 g0 g1 g2 g3 g4 zg8
  have hmpl : R.mp < w8.heap.size := (Array.getElem?_eq_some_iff.1 mp8).1
  refine Reg.only (i := 31) (by kernel_rfl) rfl (fun K hK => ?_)
  go_simp
  refine hK _ _ (fun hb => absurd hb (by decide)) ?_
  clear hK K
  try simp only [Act.put, List.getElem_toArray, List.getElem_cons_succ, List.getElem_cons_zero, List.setIfInBounds_toArray, List.set_cons_zero, List.set_cons_succ]
  have mp9 : (World.putMap w8 R.mp (R.es.map ent ++ [({ key := .int .i64 (d : Int), val := .pointer none, born := R.clock } : MapEntry)]).toArray (R.clock + 1)).heap[R.mp]? = some (.map (R.es.map ent ++ [({ key := .int .i64 (d : Int), val := .pointer none, born := R.clock } : MapEntry)]).toArray (R.clock + 1)) := putMap_same hmpl
  have O9 : Only (· = R.mp) w8 (World.putMap w8 R.mp (R.es.map ent ++ [({ key := .int .i64 (d : Int), val := .pointer none, born := R.clock } : MapEntry)]).toArray (R.clock + 1)) := Only.putMap (S := (· = R.mp)) (Only.refl _ _) mp8 (fun _ => rfl)
  have hst := entry_store (xb := xb) (by rw [List.push_toArray]; exact mp9) hH3.out.stamps
  simp only [List.map_append, List.map_cons, List.map_nil] at hst
  have hsz9 : (World.putMap w8 R.mp (R.es.map ent ++ [({ key := .int .i64 (d : Int), val := .pointer none, born := R.clock } : MapEntry)]).toArray (R.clock + 1)).heap.size = w8.heap.size := by simp [World.putMap]
  clear hen
  revert mp9 O9 hst hsz9
  generalize World.putMap w8 R.mp (R.es.map ent ++ [({ key := .int .i64 (d : Int), val := .pointer none, born := R.clock } : MapEntry)]).toArray (R.clock + 1) = w9
  intro mp9 O9 hst hsz9
  refine Reg.take0 (i := 32) (v := ?_) rfl (by kernel_rfl) (by kernel_rfl) (by kernel_rfl) (by kernel_rfl) (fun _ _ _ h => h) (Or.inl ⟨by rfl, ?_⟩) ?_
  rotate_left
  · (intro w _; go_simp; try with_reducible rfl)
  try simp only [Act.put, List.getElem_toArray, List.getElem_cons_succ, List.getElem_cons_zero, List.setIfInBounds_toArray, List.set_cons_zero, List.set_cons_succ]
  refine Reg.only (i := 33) (by kernel_rfl) rfl (fun K hK => ?_)
  go_simp
  refine hK _ _ (fun hb => absurd hb (by decide)) ?_
  clear hK K
  try simp only [Act.put, List.getElem_toArray, List.getElem_cons_succ, List.getElem_cons_zero, List.setIfInBounds_toArray, List.set_cons_zero, List.set_cons_succ]
  refine Reg.done (by kernel_rfl) ?_ _
  have O10 : Only (· = R.mp) w8 (World.putMap w9 R.mp (R.es.map ent ++ [ent (d, xb, R.clock)]).toArray (R.clock + 1)) := Only.putMap (S := (· = R.mp)) O9 mp9 (fun _ => rfl)
  have m10 : (World.putMap w9 R.mp (R.es.map ent ++ [ent (d, xb, R.clock)]).toArray (R.clock + 1)).heap[R.mp]? = some (.map (R.es.map ent ++ [ent (d, xb, R.clock)]).toArray (R.clock + 1)) := putMap_same (by rw [hsz9]; exact hmpl)
  revert O10 m10
  generalize World.putMap w9 R.mp (R.es.map ent ++ [ent (d, xb, R.clock)]).toArray (R.clock + 1) = w10
  intro O10 m10
  have nM : ∀ k e, KindAt w7 k e → k ≠ R.mp := fun k e hk he => kind_map hk (he ▸ mp7.out)
  have nG : ∀ k e, e ≠ 80 → KindAt w7 k e → k ≠ R.rg := fun k e he hk h => he (hk.inj (h ▸ kg7.out))
  have O78 : Only (fun k => k = R.rg ∨ k = R.mp) w7 w10 := (O8.mono fun _ _ h => .inl h).then O10 fun _ _ h => .inr h
  have nS : ∀ k e, e ≠ 80 → KindAt w7 k e → ¬ (k = R.rg ∨ k = R.mp) := fun k e he hk h => h.elim (nG k e he hk) (nM k e hk)
  have M10 := M7.out.only O78 (nS _ _ (by decide) M7.out.kind) (fun k hk => nS _ _ (by decide) (own_kind M7.out.own hk).1)
  have R10 := R7.out.only O78 (nS _ _ (by decide) R7.out.kR) (nS _ _ (by decide) R7.out.kB)
  have K10 := O78.kind _ _ (by decide) K7.out
  have T10 := T7.out.only O78 K7.out.lt (nS _ _ (by decide) K7.out)
  have X10 : ∀ j, w10.cell? ⟨xb, j, none⟩ = (#[.int .i64 ((d : Nat) : Int), .int .i64 n, .int .i64 0, .slice none 0 0] : Array Value)[j]? := fun j => (O78.cell (p := ⟨xb, j, none⟩) K7.out.lt (nS _ _ (by decide) K7.out)).trans (X7.out j)
  have kg8 := O8.kind _ _ (by decide) kg7.out
  have nGM : R.rg ≠ R.mp := nM _ _ kg7.out
  have G10 : ∀ j, w10.cell? ⟨R.rg, j, none⟩ = w8.cell? ⟨R.rg, j, none⟩ := fun j => O10.cell (p := ⟨R.rg, j, none⟩) kg8.lt nGM
  have TG10 := zg8.only O10 kg8.lt nGM
  have RW10 := hrw7.out.only O78 (fun k hk => nS _ _ (by decide) (hrw7.out.own hk).1)
  have O3 : Only R.spine w3 w10 := O7.out.then O78 fun k _ h => h.elim .inl fun h => .inr (.inl h)
  have hx0 : w10.cell? ⟨xb, 0, none⟩ = some (.int .i64 ((d : Nat) : Int)) := X10 0
  have hfin := Lib.hid (ring_reserve hH3.out (x := ⟨rb, bb, n, false, fun _ => 0⟩) O3 hn hl M10 hV4.out R10 ⟨rfl, rfl⟩ hbs4.out.1 hbs4.out.2 hs5.out K10 T10 (by rw [hd.out]; exact hx0) (X10 1) (X10 2) (X10 3) TG10
    (by rw [G10]; exact g0) (by rw [G10, g1, hu.out, hm.out]) (by rw [G10]; exact g2) (by rw [G10]; exact g3) (by rw [G10]; exact g4) RW10 (hrv7.out.imp id fun ⟨k, a, b⟩ => ⟨k, a, Nat.le_trans hs6.out b⟩) (by rw [hd.out, List.map_append]; exact m10))
  have hO3 : Hid (Only R.spine w w10) := Lib.hid ((Only.of_below hB3.out).then O3 fun _ _ h => h)
  clear M10 R10 K10 T10 X10 G10 TG10 RW10 O3 O78 O10 m10 nM nG nS nGM kg8 hsz9 mp9 hst O9 mp8 g0 g1 g2 g3 g4 zg8 O8
  go_wp2_with fail
  go_ret2
  refine ⟨?_, hO3.out, rb, bb, xb, v4, _, hfin.out⟩
  exact congrArg (fun z => Ending.returned (.tuple #[.int .i64 z, .int .i64 0])) (show ((d : Nat) : Int) = (R.rs.length : Int) + 1 by have := hd.out; omega)
end Go.Proofs.Ytmjeloinibembaa
