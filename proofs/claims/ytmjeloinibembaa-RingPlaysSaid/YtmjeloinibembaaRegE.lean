/-
  THE WALKS of package region: Load and Store, over what a region's or a frame's own method does.
-/
import Derived.Test.YtmjeloinibembaaRegD
namespace Go.Proofs.Ytmjeloinibembaa
open Go.RowKit
set_option linter.unusedVariables false
set_option linter.unusedSimpArgs false
theorem f58_out (w : World) {mb ab : Nat} {l : List (Bool × Nat)} (ht : Hid (Tab w mb ab l)) {i : Int} {j : Nat} {x : Bool × Nat} (hij : Hid (i = j + 1)) (hx : Hid (l[j]? = some x)) (hd : Hid (w.cell? ⟨x.2, 0, none⟩ = some (.bool false))) (k : Int) (hk : Hid (k = kindOf x)) (nv : Value) (off n lo hi : Int)
    (hl : Hid (Lim w x lo hi)) (hn : 0 < n) (hh : Hid (lo ≤ hi ∧ hi - lo < 2 ^ 40 ∧ n < 2 ^ 40 ∧ -(2 ^ 40) ≤ lo ∧ lo ≤ 0 ∧ 0 ≤ hi)) (ho : Hid (off < lo ∨ hi - off < n)) :
    Calls Try.prog 58 #[.pointer (some ⟨mb, 0, none⟩), .agg #[.int .i64 k, nv, .int .i64 i, .int .i64 off], .int .i64 n] w fun e w' => e = .returned (.tuple #[.nilIface, .int .i64 0, .int .i64 3]) ∧ Below w.heap.size w w' := by
  by_cases h1 : off < lo
  · exact f58_out1 w ht hij hx hd k hk nv off n lo hi hl hn hh (Lib.hid h1)
  · by_cases h2 : hi ≤ off
    · exact f58_out2 w ht hij hx hd k hk nv off n lo hi hl hn hh (Lib.hid ⟨by omega, h2⟩)
    · exact f58_out3 w ht hij hx hd k hk nv off n lo hi hl hn hh (Lib.hid ⟨by omega, by omega, ho.out.resolve_left h1⟩)
theorem two_below {w w1 : World} {o o2 : Obj} (h : Below ((w.alloc o).alloc o2).heap.size ((w.alloc o).alloc o2) w1) : Below w.heap.size w w1 := below_alloc_then (below_alloc_then h)
theorem boxed2_below {w : World} {v0 v1 v2 v3 : Value} : Hid (∀ w', Below (w.heap.size + 2) ((w.alloc (.cells #[v0, v1, v2, v3] 63)).alloc (.cells #[.int .i64 0, .int .u64 0, .int .i64 0, .int .i64 0] 63)) w' →
    w'.cell? ⟨w.heap.size, 0, none⟩ = some v0 ∧ w'.cell? ⟨w.heap.size, 1, none⟩ = some v1 ∧ w'.cell? ⟨w.heap.size, 2, none⟩ = some v2 ∧ w'.cell? ⟨w.heap.size, 3, none⟩ = some v3) :=
  Lib.hid fun w' hb => by
    refine ⟨?_, ?_, ?_, ?_⟩
    all_goals
      rw [hb.cell (by simp), World.cell?_alloc_old _ _ _ (by simp), World.cell?_alloc_at _ _ _ _ rfl]
      rfl
theorem result_below {w : World} {o : Obj} : Hid (∀ w', Below (w.heap.size + 2) ((w.alloc o).alloc (.cells #[.int .i64 0, .int .u64 0, .int .i64 0, .int .i64 0] 63)) w' →
    w'.cell? ⟨w.heap.size + 1, 0, none⟩ = some (.int .i64 0) ∧ w'.cell? ⟨w.heap.size + 1, 1, none⟩ = some (.int .u64 0) ∧ w'.cell? ⟨w.heap.size + 1, 2, none⟩ = some (.int .i64 0) ∧ w'.cell? ⟨w.heap.size + 1, 3, none⟩ = some (.int .i64 0) ∧ Thaw w' (w.heap.size + 1)) :=
  Lib.hid fun w' hb => by
    refine ⟨?_, ?_, ?_, ?_, fun j => ?_⟩
    · rw [hb.cell (by simp), World.cell?_alloc_at _ _ _ _ (by simp)]; rfl
    · rw [hb.cell (by simp), World.cell?_alloc_at _ _ _ _ (by simp)]; rfl
    · rw [hb.cell (by simp), World.cell?_alloc_at _ _ _ _ (by simp)]; rfl
    · rw [hb.cell (by simp), World.cell?_alloc_at _ _ _ _ (by simp)]; rfl
    · rw [hb.frozen (by simp)]
      simp
/-- four cells of a block are written and read again. -/
theorem four_back {w : World} {b : Nat} {u0 u1 u2 u3 : Value} (c0 : w.cell? ⟨b, 0, none⟩ = some u0) (c1 : w.cell? ⟨b, 1, none⟩ = some u1) (c2 : w.cell? ⟨b, 2, none⟩ = some u2) (c3 : w.cell? ⟨b, 3, none⟩ = some u3) (v0 v1 v2 v3 : Value) :
    (w.setCell ⟨b, 0, none⟩ v0).cell? ⟨b, 0, none⟩ = some v0 ∧ ((w.setCell ⟨b, 0, none⟩ v0).setCell ⟨b, 1, none⟩ v1).cell? ⟨b, 1, none⟩ = some v1 ∧
    (((w.setCell ⟨b, 0, none⟩ v0).setCell ⟨b, 1, none⟩ v1).setCell ⟨b, 2, none⟩ v2).cell? ⟨b, 2, none⟩ = some v2 ∧
    ((((w.setCell ⟨b, 0, none⟩ v0).setCell ⟨b, 1, none⟩ v1).setCell ⟨b, 2, none⟩ v2).setCell ⟨b, 3, none⟩ v3).cell? ⟨b, 3, none⟩ = some v3 := by
  refine ⟨cell_same _ c0, cell_same (u := u1) _ ?_, cell_same (u := u2) _ ?_, cell_same (u := u3) _ ?_⟩
  · rw [cell_ne _ (.inr (by decide))]; exact c1
  · rw [cell_ne _ (.inr (by decide)), cell_ne _ (.inr (by decide))]; exact c2
  · rw [cell_ne _ (.inr (by decide)), cell_ne _ (.inr (by decide)), cell_ne _ (.inr (by decide))]; exact c3
theorem four_below {w w3 : World} {b : Nat} (h : Below w.heap.size w w3) (hb : w.heap.size ≤ b) (v0 v1 v2 v3 : Value) :
    Below w.heap.size w ((((w3.setCell ⟨b, 0, none⟩ v0).setCell ⟨b, 1, none⟩ v1).setCell ⟨b, 2, none⟩ v2).setCell ⟨b, 3, none⟩ v3) :=
  (((h.setCell (p := ⟨b, 0, none⟩) hb _).setCell (p := ⟨b, 1, none⟩) hb _).setCell (p := ⟨b, 2, none⟩) hb _).setCell (p := ⟨b, 3, none⟩) hb _
theorem size_ok {n : Int} (h : n = 1 ∨ n = 2 ∨ n = 4 ∨ n = 8) : 0 < n ∧ n ≤ 8 := by omega
theorem lim_ok {w : World} {x : Bool × Nat} {lo hi n : Int} (h : Lim w x lo hi) (hn : n = 1 ∨ n = 2 ∨ n = 4 ∨ n = 8 ∨ n = 16) : Hid (lo ≤ hi ∧ hi - lo < 2 ^ 40 ∧ n < 2 ^ 40 ∧ -(2 ^ 40) ≤ lo ∧ lo ≤ 0 ∧ 0 ≤ hi) := by
  refine Lib.hid ?_
  unfold Lim at h
  split at h
  · omega
  · obtain ⟨bb, n, c, rfl, rfl, h3, _⟩ := h
    omega

set_option maxRecDepth 100000 in
set_option maxHeartbeats 2000000 in
theorem f42_in (w : World) {mb ab : Nat} {l : List (Bool × Nat)} (ht : Hid (Tab w mb ab l)) {i : Int} {j : Nat} {x : Bool × Nat} (hij : Hid (i = j + 1)) (hx : Hid (l[j]? = some x)) (hd : Hid (w.cell? ⟨x.2, 0, none⟩ = some (.bool false))) (k : Int) (hk : Hid (k = kindOf x)) (nv : Value) (off n lo hi : Int)
    (hl : Hid (Lim w x lo hi)) (hn : Hid (n = 1 ∨ n = 2 ∨ n = 4 ∨ n = 8)) (ho : Hid (lo ≤ off ∧ off + n ≤ hi)) {a0 a1 a2 a3 tr : Int}
    (hm : Hid (∀ w', Below w.heap.size w w' → Calls Try.prog (if x.1 then 98 else 88) #[.pointer (some ⟨x.2, 0, none⟩), .int .i64 (off - lo), .int .i64 n] w' fun e w'' => e = .returned (.tuple #[.agg #[.int .i64 a0, .int .u64 a1, .int .i64 a2, .int .i64 a3], .int .i64 tr]) ∧ Below w'.heap.size w' w'')) :
    Calls Try.prog 42 #[.pointer (some ⟨mb, 0, none⟩), .agg #[.int .i64 k, nv, .int .i64 i, .int .i64 off], .int .i64 n] w fun e w' => e = .returned (.tuple #[.agg #[.int .i64 a0, .int .u64 a1, .int .i64 a2, .int .i64 a3], .int .i64 tr]) ∧ Below w.heap.size w w' := by
  have hT := ht.out.below hx.out
  have hD := cell_below hd.out
  have hL := hl.out.below
  have hB := boxed2_below (w := w) (v0 := .int .i64 k) (v1 := nv) (v2 := .int .i64 i) (v3 := .int .i64 off)
  have hR := result_below (w := w) (o := .cells #[.int .i64 k, nv, .int .i64 i, .int .i64 off] 63)
  obtain ⟨xk, xb⟩ := x
  cases xk
  all_goals
    have hm1 := m_load_r xb
    have hm2 := m_load_f xb
    go_enter Try.func42, Try.ntmps42
    go_wp2_with fail
    refine (f56_ok k nv _ _ _ (by rw [hk.out]; exact kind_ok _)).mono ?_; rintro e w1 ⟨rfl, h1⟩
    have hb1 : Below (w.heap.size + 2) _ w1 := h1.mono (by simp)
    have h1' := two_below h1
    go_wp2_with fail
    refine (f57_ok n _ hn.out).mono ?_; rintro e w' ⟨rfl, rfl⟩
    obtain ⟨c0, c1, c2, c3⟩ := hB.out w1 hb1
    go_wp2_with fail
    refine (f58_in w1 (Lib.hid (hT.out _ h1')) hij hx (Lib.hid (hD.out _ h1')) k hk nv off n lo hi (Lib.hid (hL.out _ h1')) (size_ok hn.out).1 (lim_ok hl.out (by have := hn.out; omega)) ho).mono ?_; rintro e w2 ⟨rfl, h2⟩
    clear c0 c1 c2 c3
    have h2' := below_then h1' h2
    have hb2 := below_on hb1 (by simp) h2
    simp only [area_r, area_f]
    go_wp2_with fail
    refine (hm.out w2 h2').mono ?_; rintro e w3 ⟨rfl, h3⟩
    have h3' := below_then h2' h3
    obtain ⟨c0, c1, c2, c3, hz⟩ := hR.out w3 (below_on hb2 (by simp) h3)
    have hz0 := hz 0
    have hz1 := hz 1
    have hz2 := hz 2
    have hz3 := hz 3
    clear hz
    obtain ⟨g0, g1, g2, g3⟩ := four_back c0 c1 c2 c3 (.int .i64 a0) (.int .u64 a1) (.int .i64 a2) (.int .i64 a3)
    go_wp2_with fail
    refine bodyPost_ret (v := .tuple #[.agg #[.int .i64 a0, .int .u64 a1, .int .i64 a2, .int .i64 a3], .int .i64 tr]) (by simp [results, Try.results42, go_sem, g0, g1, g2, g3]) rfl ?_
    exact ⟨rfl, four_below h3' (by omega) _ _ _ _⟩

set_option maxRecDepth 100000 in
set_option maxHeartbeats 2000000 in
theorem f42_fail (w : World) {mb : Nat} {i : Int} (k : Int) (hk : Hid (k = 2 ∨ k = 5)) (nv : Value) (off n tr : Int) (hn : Hid (n = 1 ∨ n = 2 ∨ n = 4 ∨ n = 8)) (htr : (tr == 0) = false)
    (hm : Hid (∀ w', Below w.heap.size w w' → Calls Try.prog 58 #[.pointer (some ⟨mb, 0, none⟩), .agg #[.int .i64 k, nv, .int .i64 i, .int .i64 off], .int .i64 n] w' fun e w'' => e = .returned (.tuple #[.nilIface, .int .i64 0, .int .i64 tr]) ∧ Below w'.heap.size w' w'')) :
    Calls Try.prog 42 #[.pointer (some ⟨mb, 0, none⟩), .agg #[.int .i64 k, nv, .int .i64 i, .int .i64 off], .int .i64 n] w fun e w' => e = .returned (.tuple #[.agg #[.int .i64 0, .int .u64 0, .int .i64 0, .int .i64 0], .int .i64 tr]) ∧ Below w.heap.size w w' := by
  have hB := boxed2_below (w := w) (v0 := .int .i64 k) (v1 := nv) (v2 := .int .i64 i) (v3 := .int .i64 off)
  have hR := result_below (w := w) (o := .cells #[.int .i64 k, nv, .int .i64 i, .int .i64 off] 63)
  go_enter Try.func42, Try.ntmps42
  go_wp2_with fail
  refine (f56_ok k nv _ _ _ hk.out).mono ?_; rintro e w1 ⟨rfl, h1⟩
  have hb1 : Below (w.heap.size + 2) _ w1 := h1.mono (by simp)
  have h1' := two_below h1
  go_wp2_with fail
  refine (f57_ok n _ hn.out).mono ?_; rintro e w' ⟨rfl, rfl⟩
  obtain ⟨c0, c1, c2, c3⟩ := hB.out w1 hb1
  go_wp2_with fail
  refine (hm.out w1 h1').mono ?_; rintro e w2 ⟨rfl, h2⟩
  clear c0 c1 c2 c3
  have h2' := below_then h1' h2
  have hb2 := below_on hb1 (by simp) h2
  obtain ⟨c0, c1, c2, c3, hz⟩ := hR.out w2 hb2
  have hz0 := hz 0
  have hz1 := hz 1
  have hz2 := hz 2
  have hz3 := hz 3
  clear hz
  obtain ⟨g0, g1, g2, g3⟩ := four_back c0 c1 c2 c3 (.int .i64 0) (.int .u64 0) (.int .i64 0) (.int .i64 0)
  go_wp2_with fail
  refine bodyPost_ret (v := .tuple #[.agg #[.int .i64 0, .int .u64 0, .int .i64 0, .int .i64 0], .int .i64 tr]) (by simp [results, Try.results42, go_sem, g0, g1, g2, g3]) rfl ?_
  exact ⟨rfl, four_below h2' (by omega) _ _ _ _⟩
theorem box2_below {w : World} {v0 v1 v2 v3 u0 u1 u2 u3 : Value} : Hid (∀ w', Below (w.heap.size + 2) ((w.alloc (.cells #[v0, v1, v2, v3] 63)).alloc (.cells #[u0, u1, u2, u3] 63)) w' →
    (w'.cell? ⟨w.heap.size, 0, none⟩ = some v0 ∧ w'.cell? ⟨w.heap.size, 1, none⟩ = some v1 ∧ w'.cell? ⟨w.heap.size, 2, none⟩ = some v2 ∧ w'.cell? ⟨w.heap.size, 3, none⟩ = some v3) ∧
    (w'.cell? ⟨w.heap.size + 1, 0, none⟩ = some u0 ∧ w'.cell? ⟨w.heap.size + 1, 1, none⟩ = some u1 ∧ w'.cell? ⟨w.heap.size + 1, 2, none⟩ = some u2 ∧ w'.cell? ⟨w.heap.size + 1, 3, none⟩ = some u3)) :=
  Lib.hid fun w' hb => by
    refine ⟨⟨?_, ?_, ?_, ?_⟩, ⟨?_, ?_, ?_, ?_⟩⟩
    any_goals
      rw [hb.cell (by simp), World.cell?_alloc_old _ _ _ (by simp), World.cell?_alloc_at _ _ _ _ rfl]
      rfl
    all_goals
      rw [hb.cell (by simp), World.cell?_alloc_at _ _ _ _ (by simp)]
      rfl
set_option maxRecDepth 100000 in
set_option maxHeartbeats 2000000 in
theorem f41_fail (w : World) {mb : Nat} {i : Int} (k : Int) (hk : Hid (k = 2 ∨ k = 5)) (nv : Value) (off n tr : Int) (hn : Hid (n = 1 ∨ n = 2 ∨ n = 4 ∨ n = 8)) (htr : (tr == 0) = false) (vk vn vi vo : Int) (hvk : (vk == 0) = false)
    (hm : Hid (∀ w', Below w.heap.size w w' → Calls Try.prog 58 #[.pointer (some ⟨mb, 0, none⟩), .agg #[.int .i64 k, nv, .int .i64 i, .int .i64 off], .int .i64 n] w' fun e w'' => e = .returned (.tuple #[.nilIface, .int .i64 0, .int .i64 tr]) ∧ Below w'.heap.size w' w'')) :
    Calls Try.prog 41 #[.pointer (some ⟨mb, 0, none⟩), .agg #[.int .i64 k, nv, .int .i64 i, .int .i64 off], .int .i64 n, .agg #[.int .i64 vk, .int .u64 vn, .int .i64 vi, .int .i64 vo]] w fun e w' => e = .returned (.int .i64 tr) ∧ Below w.heap.size w w' := by
  have hB := box2_below (w := w) (v0 := .int .i64 k) (v1 := nv) (v2 := .int .i64 i) (v3 := .int .i64 off) (u0 := .int .i64 vk) (u1 := .int .u64 vn) (u2 := .int .i64 vi) (u3 := .int .i64 vo)
  go_enter Try.func41, Try.ntmps41
  go_wp2_with fail
  refine (f56_ok k nv _ _ _ hk.out).mono ?_; rintro e w1 ⟨rfl, h1⟩
  have hb1 : Below (w.heap.size + 2) _ w1 := h1.mono (by simp)
  have h1' := two_below h1
  obtain ⟨⟨c0, c1, c2, c3⟩, ⟨d0, d1, d2, d3⟩⟩ := hB.out w1 hb1
  go_wp2_with fail
  refine (f57_ok n _ hn.out).mono ?_; rintro e w' ⟨rfl, rfl⟩
  go_wp2_with fail
  refine (hm.out w1 h1').mono ?_; rintro e w2 ⟨rfl, h2⟩
  go_wp2_with fail
  go_returns
  exact ⟨rfl, below_then h1' h2⟩
set_option maxRecDepth 100000 in
set_option maxHeartbeats 2000000 in
theorem f41_in (w : World) {mb ab : Nat} {l : List (Bool × Nat)} (ht : Hid (Tab w mb ab l)) {i : Int} {j : Nat} {x : Bool × Nat} (hij : Hid (i = j + 1)) (hx : Hid (l[j]? = some x)) (hd : Hid (w.cell? ⟨x.2, 0, none⟩ = some (.bool false))) (k : Int) (hk : Hid (k = kindOf x)) (nv : Value) (off n lo hi : Int)
    (hl : Hid (Lim w x lo hi)) (hn : Hid (n = 1 ∨ n = 2 ∨ n = 4 ∨ n = 8)) (ho : Hid (lo ≤ off ∧ off + n ≤ hi)) (vk vn vi vo : Int) (hvk : (vk == 0) = false) {tr : Int} {R : World → World → Prop}
    (hm : Hid (∀ w', Below w.heap.size w w' → Calls Try.prog (if x.1 then 100 else 89) #[.pointer (some ⟨x.2, 0, none⟩), .int .i64 (off - lo), .int .i64 n, .agg #[.int .i64 vk, .int .u64 vn, .int .i64 vi, .int .i64 vo]] w' fun e w'' => e = .returned (.int .i64 tr) ∧ R w' w'')) :
    Calls Try.prog 41 #[.pointer (some ⟨mb, 0, none⟩), .agg #[.int .i64 k, nv, .int .i64 i, .int .i64 off], .int .i64 n, .agg #[.int .i64 vk, .int .u64 vn, .int .i64 vi, .int .i64 vo]] w fun e w' => e = .returned (.int .i64 tr) ∧ ∃ w1, Below w.heap.size w w1 ∧ R w1 w' := by
  have hT := ht.out.below hx.out
  have hD := cell_below hd.out
  have hL := hl.out.below
  have hB := box2_below (w := w) (v0 := .int .i64 k) (v1 := nv) (v2 := .int .i64 i) (v3 := .int .i64 off) (u0 := .int .i64 vk) (u1 := .int .u64 vn) (u2 := .int .i64 vi) (u3 := .int .i64 vo)
  obtain ⟨xk, xb⟩ := x
  cases xk
  all_goals
    have hm1 := m_store_r xb
    have hm2 := m_store_f xb
    go_enter Try.func41, Try.ntmps41
    go_wp2_with fail
    refine (f56_ok k nv _ _ _ (by rw [hk.out]; exact kind_ok _)).mono ?_; rintro e w1 ⟨rfl, h1⟩
    have hb1 : Below (w.heap.size + 2) _ w1 := h1.mono (by simp)
    have h1' := two_below h1
    obtain ⟨⟨c0, c1, c2, c3⟩, ⟨d0, d1, d2, d3⟩⟩ := hB.out w1 hb1
    go_wp2_with fail
    refine (f57_ok n _ hn.out).mono ?_; rintro e w' ⟨rfl, rfl⟩
    go_wp2_with fail
    refine (f58_in w1 (Lib.hid (hT.out _ h1')) hij hx (Lib.hid (hD.out _ h1')) k hk nv off n lo hi (Lib.hid (hL.out _ h1')) (size_ok hn.out).1 (lim_ok hl.out (by have := hn.out; omega)) ho).mono ?_; rintro e w2 ⟨rfl, h2⟩
    clear c0 c1 c2 c3 d0 d1 d2 d3
    have h2' := below_then h1' h2
    obtain ⟨⟨c0, c1, c2, c3⟩, ⟨d0, d1, d2, d3⟩⟩ := hB.out w2 (below_on hb1 (by simp) h2)
    simp only [area_r, area_f]
    go_wp2_with fail
    refine (hm.out w2 h2').mono ?_; rintro e w3 ⟨rfl, h3⟩
    go_wp2_with fail
    go_returns
    exact ⟨rfl, w2, h2', h3⟩
end Go.Proofs.Ytmjeloinibembaa
