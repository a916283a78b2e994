/-
  THE WALKS of package region: the place of a pointer; Load and Store at a region.
-/
import Derived.Test.YtmjeloinibembaaRegC
namespace Go.Proofs.Ytmjeloinibembaa
open Go.RowKit
set_option linter.unusedVariables false
set_option linter.unusedSimpArgs false
theorem Tab.ltM {w : World} {mb ab : Nat} {l : List (Bool × Nat)} (h : Tab w mb ab l) : mb < w.heap.size := by obtain ⟨c, hc⟩ := h.all; exact World.block_lt_of_cell? _ _ hc
theorem Tab.ltA {w : World} {mb ab : Nat} {l : List (Bool × Nat)} (h : Tab w mb ab l) {j : Nat} {x : Bool × Nat} (hx : l[j]? = some x) : ab < w.heap.size := World.block_lt_of_cell? _ _ (h.at' j x hx)
theorem Tab.below {w : World} {mb ab : Nat} {l : List (Bool × Nat)} (h : Tab w mb ab l) {j : Nat} {x : Bool × Nat} (hx : l[j]? = some x) : Hid (∀ w', Below w.heap.size w w' → Tab w' mb ab l) :=
  Lib.hid fun w' hb => h.only (Only.of_below (S := fun _ => False) hb) ⟨h.ltM, fun h => h⟩ ⟨h.ltA hx, fun h => h⟩
theorem cell_below {w : World} {p : Addr} {v : Value} (h : w.cell? p = some v) : Hid (∀ w', Below w.heap.size w w' → w'.cell? p = some v) :=
  Lib.hid fun w' hb => by rw [hb.cell (World.block_lt_of_cell? _ _ h)]; exact h
theorem RegAt.below {w : World} {rb bb : Nat} {d wr : Bool} {n : Nat} {f : Nat → Nat} (h : RegAt w rb bb d wr n f) : Hid (∀ w', Below w.heap.size w w' → RegAt w' rb bb d wr n f) :=
  Lib.hid fun w' hb => h.only (Only.of_below (S := fun _ => False) hb) (fun h => h) (fun h => h)
theorem boxed_below {w : World} {v0 v1 v2 v3 : Value} : Hid (∀ w', Below (w.heap.size + 1) (w.alloc (.cells #[v0, v1, v2, v3] 63)) w' →
    w'.cell? ⟨w.heap.size, 0, none⟩ = some v0 ∧ w'.cell? ⟨w.heap.size, 1, none⟩ = some v1 ∧ w'.cell? ⟨w.heap.size, 2, none⟩ = some v2 ∧ w'.cell? ⟨w.heap.size, 3, none⟩ = some v3) :=
  Lib.hid fun w' hb => by
    refine ⟨?_, ?_, ?_, ?_⟩
    all_goals
      rw [hb.cell (by simp), World.cell?_alloc_at _ _ _ _ rfl]
      rfl
theorem below_alloc_then {w w1 : World} {o : Obj} (h : Below (w.alloc o).heap.size (w.alloc o) w1) : Below w.heap.size w w1 := below_then (Below.one o) h
theorem below_succ {w w1 : World} {o : Obj} (h : Below (w.alloc o).heap.size (w.alloc o) w1) : Below (w.heap.size + 1) (w.alloc o) w1 := h.mono (by simp)
theorem below_on {n : Nat} {w0 w1 w2 : World} (h : Below n w0 w1) (hn : n ≤ w0.heap.size) (h2 : Below w1.heap.size w1 w2) : Below n w0 w2 := h.trans (h2.mono (Nat.le_trans hn h.size))
/-- the limits of a region or a frame. -/
def Lim (w : World) (x : Bool × Nat) (lo hi : Int) : Prop := if x.1 then lo = -512 ∧ hi = 0 else ∃ bb n c : Nat, lo = 0 ∧ hi = n ∧ n < 2 ^ 40 ∧ w.cell? ⟨x.2, 1, none⟩ = some (.slice (some ⟨bb, 0, none⟩) n c)
theorem Lim.below {w : World} {x : Bool × Nat} {lo hi : Int} (h : Lim w x lo hi) : Hid (∀ w', Below w.heap.size w w' → Lim w' x lo hi) :=
  Lib.hid fun w' hb => by
    unfold Lim at h ⊢
    split at h
    · rename_i hx; rw [if_pos hx]; exact h
    · rename_i hx; rw [if_neg hx]
      obtain ⟨bb, n, c, h1, h2, h3, h4⟩ := h
      exact ⟨bb, n, c, h1, h2, h3, by rw [hb.cell (World.block_lt_of_cell? _ _ h4)]; exact h4⟩
theorem lim_calls {w : World} {x : Bool × Nat} {lo hi : Int} (h : Lim w x lo hi) : Calls Try.prog (if x.1 then 97 else 87) #[.pointer (some ⟨x.2, 0, none⟩)] w fun e w' => e = .returned (.tuple #[.int .i64 lo, .int .i64 hi]) ∧ Below w.heap.size w w' := by
  unfold Lim at h
  split at h
  · rename_i hx
    obtain ⟨rfl, rfl⟩ := h
    rw [if_pos hx]
    refine (f97_ok w).mono ?_
    rintro e w' ⟨rfl, rfl⟩
    exact ⟨rfl, Below.refl _ _⟩
  · rename_i hx
    obtain ⟨bb, n, c, rfl, rfl, _, h4⟩ := h
    rw [if_neg hx]
    exact f87_ok w h4
def kindOf (x : Bool × Nat) : Int := if x.1 then 2 else 5
theorem kind_ok (x : Bool × Nat) : kindOf x = 2 ∨ kindOf x = 5 := by unfold kindOf; split <;> simp

set_option maxRecDepth 100000 in
set_option maxHeartbeats 1000000 in
theorem f58_dead (w : World) {mb ab : Nat} {l : List (Bool × Nat)} (ht : Hid (Tab w mb ab l)) {i : Int} {j : Nat} {x : Bool × Nat} (hij : Hid (i = j + 1)) (hx : Hid (l[j]? = some x)) (hd : Hid (w.cell? ⟨x.2, 0, none⟩ = some (.bool true))) (k : Int) (hk : Hid (k = kindOf x)) (nv : Value) (off n : Int) :
    Calls Try.prog 58 #[.pointer (some ⟨mb, 0, none⟩), .agg #[.int .i64 k, nv, .int .i64 i, .int .i64 off], .int .i64 n] w fun e w' => e = .returned (.tuple #[.nilIface, .int .i64 0, .int .i64 4]) ∧ Below w.heap.size w w' := by
  have hT := ht.out.below hx.out
  have hD := cell_below hd.out
  have hB := boxed_below (w := w) (v0 := .int .i64 k) (v1 := nv) (v2 := .int .i64 i) (v3 := .int .i64 off)
  go_enter Try.func58, Try.ntmps58
  go_wp2_with fail
  refine (f56_ok k nv _ _ _ (by rw [hk.out]; exact kind_ok x)).mono ?_; rintro e w1 ⟨rfl, h1⟩
  obtain ⟨c0, c1, c2, c3⟩ := hB.out w1 (below_succ h1)
  have h1' := below_alloc_then h1
  go_wp2_with fail
  refine (f66_ok w1 (Lib.hid (hT.out _ h1')) hij.out hx.out true (hD.out _ h1') k _ _ hk.out).mono ?_; rintro e w2 ⟨rfl, h2⟩
  simp only [if_true]
  go_wp2_with fail
  go_returns
  exact ⟨rfl, below_then h1' h2⟩
set_option maxRecDepth 100000 in
set_option maxHeartbeats 2000000 in
theorem f58_out1 (w : World) {mb ab : Nat} {l : List (Bool × Nat)} (ht : Hid (Tab w mb ab l)) {i : Int} {j : Nat} {x : Bool × Nat} (hij : Hid (i = j + 1)) (hx : Hid (l[j]? = some x)) (hd : Hid (w.cell? ⟨x.2, 0, none⟩ = some (.bool false))) (k : Int) (hk : Hid (k = kindOf x)) (nv : Value) (off n lo hi : Int)
    (hl : Hid (Lim w x lo hi)) (hn : 0 < n) (hh : Hid (lo ≤ hi ∧ hi - lo < 2 ^ 40 ∧ n < 2 ^ 40 ∧ -(2 ^ 40) ≤ lo ∧ lo ≤ 0 ∧ 0 ≤ hi)) (ho : Hid (off < lo)) :
    Calls Try.prog 58 #[.pointer (some ⟨mb, 0, none⟩), .agg #[.int .i64 k, nv, .int .i64 i, .int .i64 off], .int .i64 n] w fun e w' => e = .returned (.tuple #[.nilIface, .int .i64 0, .int .i64 3]) ∧ Below w.heap.size w w' := by
  have hT := ht.out.below hx.out
  have hD := cell_below hd.out
  have hL := hl.out.below
  have hB := boxed_below (w := w) (v0 := .int .i64 k) (v1 := nv) (v2 := .int .i64 i) (v3 := .int .i64 off)
  have hn0 : ¬ n < 0 := by omega
  have hn1 : (n == 0) = false := by simp; omega
  have hho := hh.out
  have hoo := ho.out
  have a1 : off < lo := hoo
  clear hho hoo hn
  obtain ⟨xk, xb⟩ := x
  cases xk
  all_goals
    have hm1 := m_limits_r xb
    have hm2 := m_limits_f xb
    go_enter Try.func58, Try.ntmps58
    go_wp2_with fail
    refine (f56_ok k nv _ _ _ (by rw [hk.out]; exact kind_ok _)).mono ?_; rintro e w1 ⟨rfl, h1⟩
    have hb1 := below_succ h1
    obtain ⟨c0, c1, c2, c3⟩ := hB.out w1 hb1
    have h1' := below_alloc_then h1
    go_wp2_with fail
    refine (f66_ok w1 (Lib.hid (hT.out _ h1')) hij.out hx.out false (hD.out _ h1') k _ _ hk.out).mono ?_; rintro e w2 ⟨rfl, h2⟩
    clear c0 c1 c2 c3
    have hb2 := below_on hb1 (by simp) h2
    have h2' := below_then h1' h2
    simp only [Bool.false_eq_true, if_false, area_r, area_f]
    go_wp2_with fail
    refine (lim_calls (hL.out _ h2')).mono ?_; rintro e w3 ⟨rfl, h3⟩
    obtain ⟨c0, c1, c2, c3⟩ := hB.out w3 (below_on hb2 (by simp) h3)
    have h3' := below_then h2' h3
    clear c0 c1 c2
    go_wp2_with fail
    go_returns
    exact ⟨rfl, h3'⟩
set_option maxRecDepth 100000 in
set_option maxHeartbeats 2000000 in
theorem f58_out2 (w : World) {mb ab : Nat} {l : List (Bool × Nat)} (ht : Hid (Tab w mb ab l)) {i : Int} {j : Nat} {x : Bool × Nat} (hij : Hid (i = j + 1)) (hx : Hid (l[j]? = some x)) (hd : Hid (w.cell? ⟨x.2, 0, none⟩ = some (.bool false))) (k : Int) (hk : Hid (k = kindOf x)) (nv : Value) (off n lo hi : Int)
    (hl : Hid (Lim w x lo hi)) (hn : 0 < n) (hh : Hid (lo ≤ hi ∧ hi - lo < 2 ^ 40 ∧ n < 2 ^ 40 ∧ -(2 ^ 40) ≤ lo ∧ lo ≤ 0 ∧ 0 ≤ hi)) (ho : Hid (lo ≤ off ∧ hi ≤ off)) :
    Calls Try.prog 58 #[.pointer (some ⟨mb, 0, none⟩), .agg #[.int .i64 k, nv, .int .i64 i, .int .i64 off], .int .i64 n] w fun e w' => e = .returned (.tuple #[.nilIface, .int .i64 0, .int .i64 3]) ∧ Below w.heap.size w w' := by
  have hT := ht.out.below hx.out
  have hD := cell_below hd.out
  have hL := hl.out.below
  have hB := boxed_below (w := w) (v0 := .int .i64 k) (v1 := nv) (v2 := .int .i64 i) (v3 := .int .i64 off)
  have hn0 : ¬ n < 0 := by omega
  have hn1 : (n == 0) = false := by simp; omega
  have hho := hh.out
  have hoo := ho.out
  have a1 : ¬ off < lo := by omega
  have a2 : hi ≤ off := by omega
  clear hho hoo hn
  obtain ⟨xk, xb⟩ := x
  cases xk
  all_goals
    have hm1 := m_limits_r xb
    have hm2 := m_limits_f xb
    go_enter Try.func58, Try.ntmps58
    go_wp2_with fail
    refine (f56_ok k nv _ _ _ (by rw [hk.out]; exact kind_ok _)).mono ?_; rintro e w1 ⟨rfl, h1⟩
    have hb1 := below_succ h1
    obtain ⟨c0, c1, c2, c3⟩ := hB.out w1 hb1
    have h1' := below_alloc_then h1
    go_wp2_with fail
    refine (f66_ok w1 (Lib.hid (hT.out _ h1')) hij.out hx.out false (hD.out _ h1') k _ _ hk.out).mono ?_; rintro e w2 ⟨rfl, h2⟩
    clear c0 c1 c2 c3
    have hb2 := below_on hb1 (by simp) h2
    have h2' := below_then h1' h2
    simp only [Bool.false_eq_true, if_false, area_r, area_f]
    go_wp2_with fail
    refine (lim_calls (hL.out _ h2')).mono ?_; rintro e w3 ⟨rfl, h3⟩
    obtain ⟨c0, c1, c2, c3⟩ := hB.out w3 (below_on hb2 (by simp) h3)
    have h3' := below_then h2' h3
    clear c0 c1 c2
    go_wp2_with fail
    go_returns
    exact ⟨rfl, h3'⟩
set_option maxRecDepth 100000 in
set_option maxHeartbeats 2000000 in
theorem f58_out3 (w : World) {mb ab : Nat} {l : List (Bool × Nat)} (ht : Hid (Tab w mb ab l)) {i : Int} {j : Nat} {x : Bool × Nat} (hij : Hid (i = j + 1)) (hx : Hid (l[j]? = some x)) (hd : Hid (w.cell? ⟨x.2, 0, none⟩ = some (.bool false))) (k : Int) (hk : Hid (k = kindOf x)) (nv : Value) (off n lo hi : Int)
    (hl : Hid (Lim w x lo hi)) (hn : 0 < n) (hh : Hid (lo ≤ hi ∧ hi - lo < 2 ^ 40 ∧ n < 2 ^ 40 ∧ -(2 ^ 40) ≤ lo ∧ lo ≤ 0 ∧ 0 ≤ hi)) (ho : Hid (lo ≤ off ∧ off < hi ∧ hi - off < n)) :
    Calls Try.prog 58 #[.pointer (some ⟨mb, 0, none⟩), .agg #[.int .i64 k, nv, .int .i64 i, .int .i64 off], .int .i64 n] w fun e w' => e = .returned (.tuple #[.nilIface, .int .i64 0, .int .i64 3]) ∧ Below w.heap.size w w' := by
  have hT := ht.out.below hx.out
  have hD := cell_below hd.out
  have hL := hl.out.below
  have hB := boxed_below (w := w) (v0 := .int .i64 k) (v1 := nv) (v2 := .int .i64 i) (v3 := .int .i64 off)
  have hn0 : ¬ n < 0 := by omega
  have hn1 : (n == 0) = false := by simp; omega
  have hho := hh.out
  have hoo := ho.out
  have a1 : ¬ off < lo := by omega
  have a2 : ¬ hi ≤ off := by omega
  have a3 : wrap64 (hi - off) = hi - off := by unfold wrap64; omega
  have a4 : hi - off < n := by omega
  clear hho hoo hn
  obtain ⟨xk, xb⟩ := x
  cases xk
  all_goals
    have hm1 := m_limits_r xb
    have hm2 := m_limits_f xb
    go_enter Try.func58, Try.ntmps58
    go_wp2_with fail
    refine (f56_ok k nv _ _ _ (by rw [hk.out]; exact kind_ok _)).mono ?_; rintro e w1 ⟨rfl, h1⟩
    have hb1 := below_succ h1
    obtain ⟨c0, c1, c2, c3⟩ := hB.out w1 hb1
    have h1' := below_alloc_then h1
    go_wp2_with fail
    refine (f66_ok w1 (Lib.hid (hT.out _ h1')) hij.out hx.out false (hD.out _ h1') k _ _ hk.out).mono ?_; rintro e w2 ⟨rfl, h2⟩
    clear c0 c1 c2 c3
    have hb2 := below_on hb1 (by simp) h2
    have h2' := below_then h1' h2
    simp only [Bool.false_eq_true, if_false, area_r, area_f]
    go_wp2_with fail
    refine (lim_calls (hL.out _ h2')).mono ?_; rintro e w3 ⟨rfl, h3⟩
    obtain ⟨c0, c1, c2, c3⟩ := hB.out w3 (below_on hb2 (by simp) h3)
    have h3' := below_then h2' h3
    clear c0 c1 c2
    go_wp2_with fail
    go_returns
    exact ⟨rfl, h3'⟩
set_option maxRecDepth 100000 in
set_option maxHeartbeats 2000000 in
theorem f58_in (w : World) {mb ab : Nat} {l : List (Bool × Nat)} (ht : Hid (Tab w mb ab l)) {i : Int} {j : Nat} {x : Bool × Nat} (hij : Hid (i = j + 1)) (hx : Hid (l[j]? = some x)) (hd : Hid (w.cell? ⟨x.2, 0, none⟩ = some (.bool false))) (k : Int) (hk : Hid (k = kindOf x)) (nv : Value) (off n lo hi : Int)
    (hl : Hid (Lim w x lo hi)) (hn : 0 < n) (hh : Hid (lo ≤ hi ∧ hi - lo < 2 ^ 40 ∧ n < 2 ^ 40 ∧ -(2 ^ 40) ≤ lo ∧ lo ≤ 0 ∧ 0 ≤ hi)) (ho : Hid (lo ≤ off ∧ off + n ≤ hi)) :
    Calls Try.prog 58 #[.pointer (some ⟨mb, 0, none⟩), .agg #[.int .i64 k, nv, .int .i64 i, .int .i64 off], .int .i64 n] w fun e w' => e = .returned (.tuple #[areaV x, .int .i64 (off - lo), .int .i64 0]) ∧ Below w.heap.size w w' := by
  have hT := ht.out.below hx.out
  have hD := cell_below hd.out
  have hL := hl.out.below
  have hB := boxed_below (w := w) (v0 := .int .i64 k) (v1 := nv) (v2 := .int .i64 i) (v3 := .int .i64 off)
  have hn0 : ¬ n < 0 := by omega
  have hn1 : (n == 0) = false := by simp; omega
  have hho := hh.out
  have hoo := ho.out
  have a1 : ¬ off < lo := by omega
  have a2 : ¬ hi ≤ off := by omega
  have a3 : wrap64 (hi - off) = hi - off := by unfold wrap64; omega
  have a4 : ¬ hi - off < n := by omega
  have a5 : wrap64 (off - lo) = off - lo := by unfold wrap64; omega
  clear hho hoo hn
  obtain ⟨xk, xb⟩ := x
  cases xk
  all_goals
    have hm1 := m_limits_r xb
    have hm2 := m_limits_f xb
    go_enter Try.func58, Try.ntmps58
    go_wp2_with fail
    refine (f56_ok k nv _ _ _ (by rw [hk.out]; exact kind_ok _)).mono ?_; rintro e w1 ⟨rfl, h1⟩
    have hb1 := below_succ h1
    obtain ⟨c0, c1, c2, c3⟩ := hB.out w1 hb1
    have h1' := below_alloc_then h1
    go_wp2_with fail
    refine (f66_ok w1 (Lib.hid (hT.out _ h1')) hij.out hx.out false (hD.out _ h1') k _ _ hk.out).mono ?_; rintro e w2 ⟨rfl, h2⟩
    clear c0 c1 c2 c3
    have hb2 := below_on hb1 (by simp) h2
    have h2' := below_then h1' h2
    simp only [Bool.false_eq_true, if_false, area_r, area_f]
    go_wp2_with fail
    refine (lim_calls (hL.out _ h2')).mono ?_; rintro e w3 ⟨rfl, h3⟩
    obtain ⟨c0, c1, c2, c3⟩ := hB.out w3 (below_on hb2 (by simp) h3)
    have h3' := below_then h2' h3
    clear c0 c1 c2
    go_wp2_with fail
    go_quiet (fail)
    go_wp2_with fail
    go_returns
    refine ⟨?_, below_drewN h3' _⟩
    first | show Ending.returned (.tuple #[areaV (false, xb), .int .i64 (wrap64 (off - lo)), .int .i64 0]) = _ | show Ending.returned (.tuple #[areaV (true, xb), .int .i64 (wrap64 (off - lo)), .int .i64 0]) = _
    rw [a5]
end Go.Proofs.Ytmjeloinibembaa
