/-
  THE WALKS of package region: a frame is stored into.
-/
import Derived.Test.YtmjeloinibembaaFrD
namespace Go.Proofs.Ytmjeloinibembaa
open Go.RowKit
set_option linter.unusedVariables false
set_option linter.unusedSimpArgs false
set_option maxRecDepth 100000 in
set_option maxHeartbeats 2000000 in
theorem f100_tag (w : World) {fb : Nat} {F : FS} (hF : Hid (FrameAt w fb F)) {o n : Nat} (hn : Hid (0 < n)) (ho : Hid (o + n ≤ 512)) (ht : Hid (tagT F o n = true)) (vk vn vi vo : Int) :
    Calls Try.prog 100 #[.pointer (some ⟨fb, 0, none⟩), .int .i64 o, .int .i64 n, .agg #[.int .i64 vk, .int .u64 vn, .int .i64 vi, .int .i64 vo]] w fun e w' => e = .returned (.int .i64 14) ∧ Below w.heap.size w w' := by
  go_enter Try.func100, Try.ntmps100
  go_wp2_with fail
  have hb0 : Below w.heap.size w (w.alloc (.cells #[.int .i64 vk, .int .u64 vn, .int .i64 vi, .int .i64 vo] 63)) := Below.one _
  refine (f96_ok _ (Lib.hid (hF.out.below.out _ hb0)) hn ho ht).mono ?_; rintro e w1 ⟨rfl, h1⟩
  simp only [if_true]
  go_wp2_with fail
  go_ret
  exact ⟨rfl, below_then hb0 h1⟩
theorem box1_below {w : World} {u0 u1 u2 u3 : Value} : Hid (∀ w', Below (w.heap.size + 1) (w.alloc (.cells #[u0, u1, u2, u3] 63)) w' →
    w'.cell? ⟨w.heap.size, 0, none⟩ = some u0 ∧ w'.cell? ⟨w.heap.size, 1, none⟩ = some u1 ∧ w'.cell? ⟨w.heap.size, 2, none⟩ = some u2 ∧ w'.cell? ⟨w.heap.size, 3, none⟩ = some u3) := boxed_below
theorem make_bytes (w : World) {n : Nat} (hn : n < 2 ^ 30) {v : Int} (hv : v = n) :
    ∃ w', (Instr.makeSlice 30 (.int .i64 v) (.int .i64 v)).run Try.prog w = .ok (.slice (some ⟨w.heap.size, 0, none⟩) n n) w' ∧ Bts w' w.heap.size 0 n (fun _ => 0) ∧ Thaw w' w.heap.size ∧ KindAt w' w.heap.size 5 ∧ Below w.heap.size w w' ∧ w.heap.size < w'.heap.size := by
  subst hv
  obtain ⟨w', h1, h2, h3⟩ := run_make_full (P := Try.prog) w w.heap.size 30 5 Try.t5 (.int .u8 0) 1 Try.underlying30 info5 zero5 size5 .i64 .i64 n (by rw [bytes5]; omega) (by unfold maxLen; omega) (Nat.le_refl _)
  have hk := own_kind h2 rfl
  refine ⟨w', h1, fun i hi => ?_, fun j => h2.frozenAt j, hk.1, ⟨h3.os, h3.tape, h3.output, h3.size, fun k hk => h3.block k hk (by simp)⟩, hk.1.lt⟩
  rw [Nat.zero_add, h2.cellAt i (by omega)]
  have : (madeCells (Value.int IntKind.u8 0).cells (n * 1)).toList = List.replicate n (Value.int .u8 0) := by rw [Nat.mul_one]; exact toList_madeCells_one _ n
  rw [this, List.getElem?_replicate, if_pos hi]; rfl
set_option maxRecDepth 100000 in
set_option maxHeartbeats 2000000 in
theorem f100_num (w : World) {fb : Nat} {F : FS} (hF : Hid (FrameAt w fb F)) {o n : Nat} (hn : Hid (0 < n ∧ n ≤ 8)) (ho : Hid (o + n ≤ 512)) (ht : Hid (tagT F o n = false)) {x : Nat} (hx : x < 2 ^ 64) (vi vo : Int) :
    Calls Try.prog 100 #[.pointer (some ⟨fb, 0, none⟩), .int .i64 o, .int .i64 n, .agg #[.int .i64 1, .int .u64 x, .int .i64 vi, .int .i64 vo]] w fun e w' => e = .returned (.int .i64 0) ∧ Only (· = fb) w w' ∧ FrameAt w' fb (wrote F o n (fun i => x / 2 ^ (8 * i) % 256)) := by
  have hx' := Lib.hid hx
  clear hx
  go_enter Try.func100, Try.ntmps100
  go_wp2_with fail
  have hb0 : Below w.heap.size w (w.alloc (.cells #[.int .i64 1, .int .u64 x, .int .i64 vi, .int .i64 vo] 63)) := Below.one _
  refine (f96_ok _ (Lib.hid (hF.out.below.out _ hb0)) (Lib.hid hn.out.1) ho ht).mono ?_; rintro e w1 ⟨rfl, h1⟩
  simp only [Bool.false_eq_true, if_false]
  have hb1 := below_then hb0 h1
  have hB1 := below_succ h1
  obtain ⟨c0, c1, c2, c3⟩ := (boxed_below).out w1 hB1
  obtain ⟨w2, hmk, hbt, hth, hk5, hb2, hlt⟩ := make_bytes w1 (n := n) (by have := hn.out; omega) rfl
  have hb2' := below_then hb1 hb2
  have hB2 := below_on hB1 (by simp) hb2
  have HBT := Lib.hid hbt
  have HTH := Lib.hid hth
  clear hbt hth
  obtain ⟨d0, d1, d2, d3⟩ := (boxed_below).out w2 hB2
  have hfl := hF.out.kind.lt
  have hs1 := hb1.size
  have hne : Hid (w1.heap.size ≠ fb) := Lib.hid (by omega)
  go_wp2_with fail
  refine (f93_ok w2 w1.heap.size 0 n n x (fun _ => 0) hn.out.2 hx'.out HBT.out HTH.out).mono ?_; rintro e w3 ⟨rfl, hO3, hB3, hT3, hC3⟩
  have hF3 := Lib.hid ((hF.out.below.out w2 hb2').only hO3 (fun h => hne.out h.symm))
  have hB3' := Lib.hid hB3
  have hbelow3 : Below w.heap.size w w3 := hb2'.trans (hO3.belowN hb2'.size (fun k hk he => by omega))
  have hOO : Only (· = fb) w w3 := Only.of_below hbelow3
  clear hB3 hT3 hC3
  go_wp2_with fail
  refine (f103_ok w3 hF3 (Lib.hid hn.out.1) ho (Lib.hid fun i hi => Nat.mod_lt _ (by decide)) hB3' hne).mono ?_; rintro e w4 ⟨rfl, hO4, hF4⟩
  have hF4' := Lib.hid hF4
  clear hF4
  go_wp2_with fail
  go_ret
  exact ⟨rfl, hOO.then hO4 (fun _ _ h => h), hF4'.out⟩
set_option maxRecDepth 100000 in
set_option maxHeartbeats 2000000 in
theorem f100_spill (w : World) {fb : Nat} {F : FS} (hF : Hid (FrameAt w fb F)) {o n : Nat} (hn : Hid (0 < n ∧ n ≤ 8)) (ho : Hid (o + n ≤ 512)) (ht : Hid (tagT F o n = false)) (hc : Hid (n ≠ 8 ∨ o % 8 ≠ 0)) (vk vn vi vo : Int) (hk : (vk == 1) = false) :
    Calls Try.prog 100 #[.pointer (some ⟨fb, 0, none⟩), .int .i64 o, .int .i64 n, .agg #[.int .i64 vk, .int .u64 vn, .int .i64 vi, .int .i64 vo]] w fun e w' => e = .returned (.int .i64 6) ∧ Below w.heap.size w w' := by
  by_cases h8 : n = 8
  · subst h8
    have h9 : ((o : Int) % 8 == 0) = false := by have := hc.out; simp; omega
    go_enter Try.func100, Try.ntmps100
    go_wp2_with fail
    have hb0 : Below w.heap.size w (w.alloc (.cells #[.int .i64 vk, .int .u64 vn, .int .i64 vi, .int .i64 vo] 63)) := Below.one _
    refine (f96_ok _ (Lib.hid (hF.out.below.out _ hb0)) (Lib.hid hn.out.1) ho ht).mono ?_; rintro e w1 ⟨rfl, h1⟩
    simp only [Bool.false_eq_true, if_false]
    obtain ⟨c0, c1, c2, c3⟩ := (boxed_below).out w1 (below_succ h1)
    go_wp2_with fail
    go_ret
    exact ⟨rfl, below_then hb0 h1⟩
  · have h9 : ((n : Int) == 8) = false := by simp; omega
    go_enter Try.func100, Try.ntmps100
    go_wp2_with fail
    have hb0 : Below w.heap.size w (w.alloc (.cells #[.int .i64 vk, .int .u64 vn, .int .i64 vi, .int .i64 vo] 63)) := Below.one _
    refine (f96_ok _ (Lib.hid (hF.out.below.out _ hb0)) (Lib.hid hn.out.1) ho ht).mono ?_; rintro e w1 ⟨rfl, h1⟩
    simp only [Bool.false_eq_true, if_false]
    obtain ⟨c0, c1, c2, c3⟩ := (boxed_below).out w1 (below_succ h1)
    go_wp2_with fail
    go_ret
    exact ⟨rfl, below_then hb0 h1⟩
/-- a pointer stands in a slot. -/
def putP (F : FS) (a : Nat) (vk vn vi vo : Int) : FS := { unw F a with has := upd (unw F a).has a true, pk := upd (unw F a).pk a vk, pn := upd (unw F a).pn a vn, pi := upd (unw F a).pi a vi, po := upd (unw F a).po a vo }
set_option maxRecDepth 100000 in
set_option maxHeartbeats 4000000 in
theorem f100_ptr (w : World) {fb : Nat} {F : FS} (hF : Hid (FrameAt w fb F)) {o : Nat} (ho : Hid (o + 8 ≤ 512)) (h8 : Hid (o % 8 = 0)) (ht : Hid (tagT F o 8 = false)) (vk vn vi vo : Int) (hk : (vk == 1) = false) :
    Calls Try.prog 100 #[.pointer (some ⟨fb, 0, none⟩), .int .i64 o, .int .i64 8, .agg #[.int .i64 vk, .int .u64 vn, .int .i64 vi, .int .i64 vo]] w fun e w' => e = .returned (.int .i64 0) ∧ Only (· = fb) w w' ∧ FrameAt w' fb (putP F (o / 8) vk vn vi vo) := by
  obtain ⟨a, ha⟩ : ∃ a, Hid (o / 8 = a) := ⟨_, Lib.hid rfl⟩
  rw [ha.out]
  have ha64 : a < 64 := by have := ha.out; have := ho.out; omega
  have ha64' : (a : Int) < 64 := by omega
  have e1 : ((o : Int) / 8) = (a : Int) := by rw [← ha.out]; omega
  have e3 : IntKind.i64.wrap (a : Int) = (a : Int) := by rw [IntKind.wrap_i64]; omega
  have e2 : ((o : Int) % 8) = 0 := by have := h8.out; omega
  go_enter Try.func100, Try.ntmps100
  go_wp2_with fail
  have hb0 : Below w.heap.size w (w.alloc (.cells #[.int .i64 vk, .int .u64 vn, .int .i64 vi, .int .i64 vo] 63)) := Below.one _
  refine (f96_ok _ (Lib.hid (hF.out.below.out _ hb0)) (Lib.hid (by decide)) ho ht).mono ?_; rintro e w1 ⟨rfl, h1⟩
  simp only [Bool.false_eq_true, if_false]
  have hb1 := below_then hb0 h1
  have hB1 := below_succ h1
  obtain ⟨c0, c1, c2, c3⟩ := (boxed_below).out w1 hB1
  have hfl := hF.out.kind.lt
  go_wp2_with fail
  refine (f62_ok w1 (Lib.hid (hF.out.below.out _ hb1)) ha64).mono ?_; rintro e w2 ⟨rfl, hO2, hF2⟩
  have hOO : Only (· = fb) w w2 := (Only.of_below hb1).then hO2 (fun _ _ h => h)
  have hne : w.heap.size ≠ fb := by omega
  have hs1 := hB1.size
  simp only [World.size_alloc] at hs1
  have hcell : ∀ jj, w2.cell? ⟨w.heap.size, jj, none⟩ = w1.cell? ⟨w.heap.size, jj, none⟩ := fun jj => hO2.cell (p := ⟨w.heap.size, jj, none⟩) (by show w.heap.size < _; omega) (fun h => hne h)
  have d0 := (hcell 0).trans c0
  have d1 := (hcell 1).trans c1
  have d2 := (hcell 2).trans c2
  have d3 := (hcell 3).trans c3
  clear hcell c0 c1 c2 c3
  have HF2 : Hid (FrameAt w2 fb (unw F a)) := Lib.hid hF2
  clear hF2
  go_wp2_with fail
  refine Reg.start (S := (fun w' => w'.cell? ⟨w.heap.size, 0, none⟩ = some (.int .i64 vk) ∧ w'.cell? ⟨w.heap.size, 1, none⟩ = some (.int .u64 vn) ∧ w'.cell? ⟨w.heap.size, 2, none⟩ = some (.int .i64 vi) ∧ w'.cell? ⟨w.heap.size, 3, none⟩ = some (.int .i64 vo))) (B := (fun _ => false)) (by kernel_rfl) ?_
  have HD : FrameAt w2.drew fb (unw F a) := HF2.out.only ((Only.refl (fun _ => False) _).drew) (fun h => h)
  have O0 : Only (· = fb) w w2.drew := hOO.drew
  have hd : w2.drew.cell? ⟨w.heap.size, 0, none⟩ = some (.int .i64 vk) ∧ w2.drew.cell? ⟨w.heap.size, 1, none⟩ = some (.int .u64 vn) ∧ w2.drew.cell? ⟨w.heap.size, 2, none⟩ = some (.int .i64 vi) ∧ w2.drew.cell? ⟨w.heap.size, 3, none⟩ = some (.int .i64 vo) := ⟨d0, d1, d2, d3⟩
  clear d0 d1 d2 d3
  revert HD O0 hd
  generalize w2.drew = W0
  intro HD O0 hd
  have HDD := Lib.hid HD
  clear HD
  refine Reg.take0 (i := 0) (v := ?_) rfl (by kernel_rfl) (by kernel_rfl) (by kernel_rfl) (by kernel_rfl) (fun _ _ _ h => h) (Or.inl ⟨by rfl, ?_⟩) ?_
  rotate_left
  · (intro w _; go_simp; try with_reducible rfl)
  try simp only [Act.put, List.setIfInBounds_toArray, List.set_cons_zero, List.set_cons_succ]
  refine Reg.take0 (i := 1) (v := ?_) rfl (by kernel_rfl) (by kernel_rfl) (by kernel_rfl) (by kernel_rfl) (fun _ _ _ h => h) (Or.inl ⟨by rfl, ?_⟩) ?_
  rotate_left
  · (intro w _; go_simp; try with_reducible rfl)
  try simp only [Act.put, List.setIfInBounds_toArray, List.set_cons_zero, List.set_cons_succ]
  refine Reg.take0 (i := 2) (v := .int .i64 a) rfl (by kernel_rfl) (by kernel_rfl) (by kernel_rfl) (by kernel_rfl) (fun _ _ _ h => h) (Or.inl ⟨by rfl, ?_⟩) ?_
  · (intro w _; go_simp; try with_reducible rfl)
  try simp only [Act.put, List.setIfInBounds_toArray, List.set_cons_zero, List.set_cons_succ]
  refine Reg.take0 (i := 3) (v := ?_) rfl (by kernel_rfl) (by kernel_rfl) (by kernel_rfl) (by kernel_rfl) (fun _ _ _ h => h) (Or.inl ⟨by rfl, ?_⟩) ?_
  rotate_left
  · (intro w _; go_simp; try with_reducible rfl)
  try simp only [Act.put, List.setIfInBounds_toArray, List.set_cons_zero, List.set_cons_succ]
  refine Reg.take0 (i := 4) (v := ?_) rfl (by kernel_rfl) (by kernel_rfl) (by kernel_rfl) (by kernel_rfl) (fun _ _ _ h => h) (Or.inl ⟨by rfl, ?_⟩) ?_
  rotate_left
  · (intro w _; go_simp; try with_reducible rfl)
  try simp only [Act.put, List.setIfInBounds_toArray, List.set_cons_zero, List.set_cons_succ]
  refine Reg.take0 (i := 5) (v := .int .i64 a) rfl (by kernel_rfl) (by kernel_rfl) (by kernel_rfl) (by kernel_rfl) (fun _ _ _ h => h) (Or.inl ⟨by rfl, ?_⟩) ?_
  · (intro w _; go_simp; try with_reducible rfl)
  try simp only [Act.put, List.setIfInBounds_toArray, List.set_cons_zero, List.set_cons_succ]
  refine Reg.take1 (i := 6) (v := .agg #[.int .i64 vk, .int .u64 vn, .int .i64 vi, .int .i64 vo]) rfl (by kernel_rfl) (by kernel_rfl) (by kernel_rfl) (by kernel_rfl) (by kernel_rfl) (fun _ _ _ h => h) (Or.inl ⟨by rfl, ?_⟩) hd ?_
  · (intro w hS; obtain ⟨hs1, hs2, hs3, hs4⟩ := hS; go_simp; try with_reducible rfl)
  try simp only [Act.put, List.setIfInBounds_toArray, List.set_cons_zero, List.set_cons_succ]
  refine Reg.take0 (i := 7) (v := ?_) rfl (by kernel_rfl) (by kernel_rfl) (by kernel_rfl) (by kernel_rfl) (fun _ _ _ h => h) (Or.inl ⟨by rfl, ?_⟩) ?_
  rotate_left
  · (intro w _; go_simp; try with_reducible rfl)
  try simp only [Act.put, List.setIfInBounds_toArray, List.set_cons_zero, List.set_cons_succ]
  refine Reg.take0 (i := 8) (v := ?_) rfl (by kernel_rfl) (by kernel_rfl) (by kernel_rfl) (by kernel_rfl) (fun _ _ _ h => h) (Or.inl ⟨by rfl, ?_⟩) ?_
  rotate_left
  · (intro w _; go_simp; try with_reducible rfl)
  try simp only [Act.put, List.setIfInBounds_toArray, List.set_cons_zero, List.set_cons_succ]
  refine Reg.take0 (i := 9) (v := .pointer (some ⟨fb, 1025 + a * 7, none⟩)) rfl (by kernel_rfl) (by kernel_rfl) (by kernel_rfl) (by kernel_rfl) (fun _ _ _ h => h) (Or.inl ⟨by rfl, ?_⟩) ?_
  · (intro w _; go_simp; try with_reducible rfl)
  try simp only [Act.put, List.setIfInBounds_toArray, List.set_cons_zero, List.set_cons_succ]
  refine Reg.take0 (i := 10) (v := ?_) rfl (by kernel_rfl) (by kernel_rfl) (by kernel_rfl) (by kernel_rfl) (fun _ _ _ h => h) (Or.inl ⟨by rfl, ?_⟩) ?_
  rotate_left
  · (intro w _; go_simp; try with_reducible rfl)
  try simp only [Act.put, List.setIfInBounds_toArray, List.set_cons_zero, List.set_cons_succ]
  refine Reg.take0 (i := 12) (v := ?_) rfl (by kernel_rfl) (by kernel_rfl) (by kernel_rfl) (by kernel_rfl) (fun _ _ _ h => h) (Or.inl ⟨by rfl, ?_⟩) ?_
  rotate_left
  · (intro w _; go_simp; try with_reducible rfl)
  try simp only [Act.put, List.setIfInBounds_toArray, List.set_cons_zero, List.set_cons_succ]
  refine Reg.take0 (i := 13) (v := ?_) rfl (by kernel_rfl) (by kernel_rfl) (by kernel_rfl) (by kernel_rfl) (fun _ _ _ h => h) (Or.inl ⟨by rfl, ?_⟩) ?_
  rotate_left
  · (intro w _; go_simp; try with_reducible rfl)
  try simp only [Act.put, List.setIfInBounds_toArray, List.set_cons_zero, List.set_cons_succ]
  have c4 := HDD.out.has a ha64
  have z4 := HDD.out.thaw (1025 + a * 7 + 4)
  refine Reg.only (i := 11) (by kernel_rfl) rfl (fun K hK => ?_)
  go_simp
  refine hK _ _ (fun _ hS => ⟨by rw [cell_ne _ (.inl (fun h => hne h.symm))]; exact hS.1, by rw [cell_ne _ (.inl (fun h => hne h.symm))]; exact hS.2.1, by rw [cell_ne _ (.inl (fun h => hne h.symm))]; exact hS.2.2.1, by rw [cell_ne _ (.inl (fun h => hne h.symm))]; exact hS.2.2.2⟩) ?_
  clear hK K
  try simp only [Act.put, List.setIfInBounds_toArray, List.set_cons_zero, List.set_cons_succ]
  refine Reg.take0 (i := 14) (v := .pointer (some ⟨fb, 1025 + a * 7, none⟩)) rfl (by kernel_rfl) (by kernel_rfl) (by kernel_rfl) (by kernel_rfl) (fun _ _ _ h => h) (Or.inl ⟨by rfl, ?_⟩) ?_
  · (intro w _; go_simp; try with_reducible rfl)
  try simp only [Act.put, List.setIfInBounds_toArray, List.set_cons_zero, List.set_cons_succ]
  refine Reg.take0 (i := 15) (v := ?_) rfl (by kernel_rfl) (by kernel_rfl) (by kernel_rfl) (by kernel_rfl) (fun _ _ _ h => h) (Or.inl ⟨by rfl, ?_⟩) ?_
  rotate_left
  · (intro w _; go_simp; try with_reducible rfl)
  try simp only [Act.put, List.setIfInBounds_toArray, List.set_cons_zero, List.set_cons_succ]
  have F1 := HDD.out.set_has ha64 true
  have O1 : Only (· = fb) w (W0.setCell ⟨fb, 1025 + a * 7 + 4, none⟩ (.bool true)) := O0.setCell (fun _ => rfl) _
  revert F1 O1
  generalize W0.setCell ⟨fb, 1025 + a * 7 + 4, none⟩ (.bool true) = W1
  intro F1 O1
  clear c4 z4 HDD
  have c0 := F1.pk a ha64
  have c1 := F1.pn a ha64
  have c2 := F1.pi a ha64
  have c3 := F1.po a ha64
  have z0 := F1.thaw (1025 + a * 7)
  have z1 := F1.thaw (1025 + a * 7 + 1)
  have z2 := F1.thaw (1025 + a * 7 + 2)
  have z3 := F1.thaw (1025 + a * 7 + 3)
  have HF3 := Lib.hid ((((F1.set_pk ha64 vk).set_pn ha64 vn).set_pi ha64 vi).set_po ha64 vo)
  have O2 := (((O1.setCell (p := ⟨fb, 1025 + a * 7, none⟩) (fun _ => rfl) (.int .i64 vk)).setCell (p := ⟨fb, 1025 + a * 7 + 1, none⟩) (fun _ => rfl) (.int .u64 vn)).setCell (p := ⟨fb, 1025 + a * 7 + 2, none⟩) (fun _ => rfl) (.int .i64 vi)).setCell (p := ⟨fb, 1025 + a * 7 + 3, none⟩) (fun _ => rfl) (.int .i64 vo)
  clear F1
  refine Reg.only (i := 16) (by kernel_rfl) rfl (fun K hK => ?_)
  go_simp
  refine hK _ _ (fun _ hS => ⟨by rw [cell_ne _ (.inl (fun h => hne h.symm)), cell_ne _ (.inl (fun h => hne h.symm)), cell_ne _ (.inl (fun h => hne h.symm)), cell_ne _ (.inl (fun h => hne h.symm))]; exact hS.1, by rw [cell_ne _ (.inl (fun h => hne h.symm)), cell_ne _ (.inl (fun h => hne h.symm)), cell_ne _ (.inl (fun h => hne h.symm)), cell_ne _ (.inl (fun h => hne h.symm))]; exact hS.2.1, by rw [cell_ne _ (.inl (fun h => hne h.symm)), cell_ne _ (.inl (fun h => hne h.symm)), cell_ne _ (.inl (fun h => hne h.symm)), cell_ne _ (.inl (fun h => hne h.symm))]; exact hS.2.2.1, by rw [cell_ne _ (.inl (fun h => hne h.symm)), cell_ne _ (.inl (fun h => hne h.symm)), cell_ne _ (.inl (fun h => hne h.symm)), cell_ne _ (.inl (fun h => hne h.symm))]; exact hS.2.2.2⟩) ?_
  clear hK K
  try simp only [Act.put, List.setIfInBounds_toArray, List.set_cons_zero, List.set_cons_succ]
  refine Reg.done (by kernel_rfl) ?_ _
  go_wp2_with fail
  go_ret
  exact ⟨rfl, O2, HF3.out⟩
end Go.Proofs.Ytmjeloinibembaa
