/-
  THE WALKS of package region: a region's methods; the place of a pointer.
-/
import Derived.Test.YtmjeloinibembaaRegB
import Derived.Test.YtmjeloinibembaaReg
import Derived.BigQuiet
namespace Go.Proofs.Ytmjeloinibembaa
open Go.RowKit
set_option linter.unusedVariables false
set_option linter.unusedSimpArgs false
/-- a region of n bytes f: its own block and that of its bytes. -/
structure RegAt (w : World) (rb bb : Nat) (d wr : Bool) (n : Nat) (f : Nat → Nat) : Prop where
  dead : w.cell? ⟨rb, 0, none⟩ = some (.bool d)
  sl : ∃ c, n ≤ c ∧ w.cell? ⟨rb, 1, none⟩ = some (.slice (some ⟨bb, 0, none⟩) n c)
  write : w.cell? ⟨rb, 2, none⟩ = some (.bool wr)
  hidden : w.cell? ⟨rb, 3, none⟩ = some (.int .i64 0)
  bts : Bts w bb 0 n f
  thawR : Thaw w rb
  thaw : Thaw w bb
  byte : ∀ i, i < n → f i < 256
  lt : bb < w.heap.size
  ne : rb ≠ bb
  kR : KindAt w rb 95
  kB : KindAt w bb 5
  small : n < 2 ^ 40
theorem RegAt.ltR {w : World} {rb bb : Nat} {d wr : Bool} {n : Nat} {f : Nat → Nat} (h : RegAt w rb bb d wr n f) : rb < w.heap.size := World.block_lt_of_cell? _ _ h.dead
theorem RegAt.only {S : Nat → Prop} {w w' : World} {rb bb : Nat} {d wr : Bool} {n : Nat} {f : Nat → Nat} (h : RegAt w rb bb d wr n f) (ho : Only S w w') (h1 : ¬ S rb) (h2 : ¬ S bb) : RegAt w' rb bb d wr n f := by
  have hr := h.ltR
  have hb := h.lt
  exact ⟨by rw [ho.cell (p := ⟨rb, 0, none⟩) hr h1]; exact h.dead, h.sl.imp fun c hc => ⟨hc.1, by rw [ho.cell (p := ⟨rb, 1, none⟩) hr h1]; exact hc.2⟩, by rw [ho.cell (p := ⟨rb, 2, none⟩) hr h1]; exact h.write,
    by rw [ho.cell (p := ⟨rb, 3, none⟩) hr h1]; exact h.hidden, fun i hi => by rw [ho.cell (p := ⟨bb, 0 + i, none⟩) hb h2]; exact h.bts i hi, h.thawR.only ho hr h1, h.thaw.only ho hb h2, h.byte, Nat.lt_of_lt_of_le hb ho.size, h.ne, ho.kind _ _ (by decide) h.kR, ho.kind _ _ (by decide) h.kB, h.small⟩
theorem kp0 {W : World} {a : Addr} {v : Value} (h : W.cell? a = some v) : W.drew.cell? a = some v := h
theorem RegAt.drew {w : World} {rb bb : Nat} {d wr : Bool} {n : Nat} {f : Nat → Nat} (h : RegAt w rb bb d wr n f) : RegAt w.drew rb bb d wr n f := h.only (Only.of_below (S := fun _ => False) ((Below.refl _ _).drew)) (fun h => h) (fun h => h)
theorem RegAt.part {w : World} {rb bb : Nat} {d wr : Bool} {n : Nat} {f : Nat → Nat} (h : RegAt w rb bb d wr n f) {o k : Nat} (hn : o + k ≤ n) : Bts w bb o k (fun i => f (o + i)) :=
  fun i hi => by have := h.bts (o + i) (by omega); rwa [Nat.zero_add] at this
/-- bytes k of them from o on are another number's. -/
def layB (f : Nat → Nat) (o k x : Nat) : Nat → Nat := fun j => if o ≤ j ∧ j < o + k then x / 2 ^ (8 * (j - o)) % 256 else f j
theorem RegAt.lay {w w' : World} {rb bb : Nat} {d wr : Bool} {n : Nat} {f : Nat → Nat} (h : RegAt w rb bb d wr n f) {o k x : Nat} (hn : o + k ≤ n) (ho : Only (· = bb) w w')
    (h1 : Bts w' bb o k (fun i => x / 2 ^ (8 * i) % 256)) (h2 : Thaw w' bb) (h3 : ∀ j, ¬ (o ≤ j ∧ j < o + k) → w'.cell? ⟨bb, j, none⟩ = w.cell? ⟨bb, j, none⟩) : RegAt w' rb bb d wr n (layB f o k x) := by
  have hr := h.ltR
  have hb := h.lt
  have hn1 : ¬ rb = bb := h.ne
  refine ⟨by rw [ho.cell (p := ⟨rb, 0, none⟩) hr hn1]; exact h.dead, h.sl.imp fun c hc => ⟨hc.1, by rw [ho.cell (p := ⟨rb, 1, none⟩) hr hn1]; exact hc.2⟩, by rw [ho.cell (p := ⟨rb, 2, none⟩) hr hn1]; exact h.write,
    by rw [ho.cell (p := ⟨rb, 3, none⟩) hr hn1]; exact h.hidden, fun i hi => ?_, h.thawR.only ho hr hn1, h2, fun i hi => ?_, Nat.lt_of_lt_of_le hb ho.size, h.ne, ho.kind _ _ (by decide) h.kR, ho.kind _ _ (by decide) h.kB, h.small⟩
  · simp only [layB, Nat.zero_add]
    split
    · rename_i hj
      have := h1 (i - o) (by omega)
      rwa [show o + (i - o) = i by omega] at this
    · rename_i hj
      rw [h3 i hj]
      have := h.bts i hi
      rwa [Nat.zero_add] at this
  · simp only [layB]
    split
    · exact Nat.mod_lt _ (by decide)
    · exact h.byte i hi
set_option maxRecDepth 100000 in
set_option maxHeartbeats 1000000 in
theorem f87_ok (w : World) {rb bb : Nat} {n c : Nat} (h1 : w.cell? ⟨rb, 1, none⟩ = some (.slice (some ⟨bb, 0, none⟩) n c)) :
    Calls Try.prog 87 #[.pointer (some ⟨rb, 0, none⟩)] w fun e w' => e = .returned (.tuple #[.int .i64 0, .int .i64 n]) ∧ Below w.heap.size w w' := by
  go_enter Try.func87, Try.ntmps87
  go_wp2_with fail
  go_quiet (fail)
  go_wp2_with fail
  go_ret2
  exact ⟨rfl, below_drewN (Below.refl _ _) _⟩
set_option maxRecDepth 100000 in
set_option maxHeartbeats 1000000 in
theorem f97_ok (w : World) {fb : Nat}  :
    Calls Try.prog 97 #[.pointer (some ⟨fb, 0, none⟩)] w fun e w' => e = .returned (.tuple #[.int .i64 (-512), .int .i64 0]) ∧ w = w' := by
  go_enter Try.func97, Try.ntmps97
  go_wp2_with fail
  go_ret2
  exact ⟨rfl, rfl⟩
set_option maxRecDepth 100000 in
set_option maxHeartbeats 1000000 in
theorem f90_ok (w : World) {rb : Nat} {at' n : Nat} (hn : 0 < n) (h1 : w.cell? ⟨rb, 3, none⟩ = some (.int .i64 0)) :
    Calls Try.prog 90 #[.pointer (some ⟨rb, 0, none⟩), .int .i64 at', .int .i64 n] w fun e w' => e = .returned (.int .i64 0) ∧ w = w' := by
  go_enter Try.func90, Try.ntmps90
  go_wp2_with fail
  go_ret
  exact ⟨rfl, rfl⟩
set_option maxRecDepth 100000 in
set_option maxHeartbeats 1000000 in
theorem f92_ok (w : World) {rb : Nat} {at' n : Nat} (wr : Bool) (hn : 0 < n) (h1 : w.cell? ⟨rb, 3, none⟩ = some (.int .i64 0)) (h2 : w.cell? ⟨rb, 2, none⟩ = some (.bool wr)) :
    Calls Try.prog 92 #[.pointer (some ⟨rb, 0, none⟩), .int .i64 at', .int .i64 n] w fun e w' => e = .returned (.int .i64 (if wr then 0 else 5)) ∧ w = w' := by
  have hn' := Lib.hid hn
  clear hn
  cases wr
  · go_enter Try.func92, Try.ntmps92
    go_wp2_with fail
    go_ret
    exact ⟨rfl, rfl⟩
  · go_enter Try.func92, Try.ntmps92
    go_wp2_with fail
    refine (f90_ok w hn'.out h1).mono ?_; rintro e w' ⟨rfl, rfl⟩
    go_wp2_with fail
    go_ret
    exact ⟨rfl, rfl⟩
set_option maxRecDepth 100000 in
set_option maxHeartbeats 1000000 in
theorem f88_ok (w : World) {rb bb : Nat} {d wr : Bool} {n : Nat} {f : Nat → Nat} (h : Hid (RegAt w rb bb d wr n f)) {o k : Nat} (hk0 : 0 < k) (hk : k ≤ 8) (hn : o + k ≤ n) :
    Calls Try.prog 88 #[.pointer (some ⟨rb, 0, none⟩), .int .i64 o, .int .i64 k] w fun e w' => e = .returned (.tuple #[.agg #[.int .i64 1, .int .u64 (numB (fun i => f (o + i)) k : Nat), .int .i64 0, .int .i64 0], .int .i64 0]) ∧ Below w.heap.size w w' := by
  have hA : Hid (∀ o, RegAt (w.alloc o) rb bb d wr n f) := Lib.hid fun o => h.out.only (Only.of_below (S := fun _ => False) (Below.one o)) (fun h => h) (fun h => h)
  have hsm := h.out.small
  have hk0' := Lib.hid hk0
  go_enter Try.func88, Try.ntmps88
  go_wp2_with fail
  refine (f90_ok _ hk0'.out (hA.out _).hidden).mono ?_; rintro e w' ⟨rfl, rfl⟩
  obtain ⟨c, hc, h1⟩ := (hA.out (.cells #[.int .i64 0, .int .u64 0, .int .i64 0, .int .i64 0] 63)).sl
  have e1 : wrap64 ((o : Int) + k) = ((o + k : Nat) : Int) := by unfold wrap64; omega
  have e2 : (((o + k : Nat) : Int)).toNat = o + k := by omega
  have hl : ((o : Int) ≤ ((o + k : Nat) : Int)) ∧ ((o + k : Nat) : Int) ≤ c := by omega
  go_wp2_with fail
  refine (f91_ok _ bb o k _ _ hk (fun i hi => (hA.out (.cells #[] 0)).byte _ (by omega)) ((hA.out _).part hn)).mono ?_; rintro e w' ⟨rfl, rfl⟩
  go_wp2_with fail
  go_returns
  exact ⟨rfl, Below.one _⟩
set_option maxRecDepth 100000 in
set_option maxHeartbeats 1000000 in
theorem f89_ok (w : World) {rb bb : Nat} {d : Bool} {wr : Bool} {n : Nat} {f : Nat → Nat} (h : Hid (RegAt w rb bb d wr n f)) {o k x : Nat} (hk0 : 0 < k) (hk : k ≤ 8) (hn : o + k ≤ n) (hx : x < 2 ^ 64) (iv ov : Value) :
    Calls Try.prog 89 #[.pointer (some ⟨rb, 0, none⟩), .int .i64 o, .int .i64 k, .agg #[.int .i64 1, .int .u64 x, iv, ov]] w fun e w' => e = .returned (.int .i64 (if wr then 0 else 5)) ∧ Only (· = bb) w w' ∧ RegAt w' rb bb d wr n (if wr then layB f o k x else f) := by
  have hA : Hid (∀ o, RegAt (w.alloc o) rb bb d wr n f) := Lib.hid fun o => h.out.only (Only.of_below (S := fun _ => False) (Below.one o)) (fun h => h) (fun h => h)
  have hsm := h.out.small
  have hk0' := Lib.hid hk0
  cases wr
  · go_enter Try.func89, Try.ntmps89
    go_wp2_with fail
    refine (f92_ok _ false hk0'.out (hA.out _).hidden (hA.out _).write).mono ?_; rintro e w' ⟨rfl, rfl⟩
    go_wp2_with fail
    go_ret
    exact ⟨rfl, Only.of_below (Below.one _), hA.out _⟩
  · go_enter Try.func89, Try.ntmps89
    go_wp2_with fail
    refine (f92_ok _ true hk0'.out (hA.out _).hidden (hA.out _).write).mono ?_; rintro e w' ⟨rfl, rfl⟩
    go_wp2_with fail
    have hRW := hA.out (.cells #[.int .i64 1, .int .u64 x, iv, ov] 63)
    have hx1 : (w.alloc (.cells #[.int .i64 1, .int .u64 x, iv, ov] 63)).cell? ⟨w.heap.size, 1, none⟩ = some (.int .u64 x) := World.cell?_alloc_at _ _ _ _ rfl
    have hbW : Only (· = bb) w (w.alloc (.cells #[.int .i64 1, .int .u64 x, iv, ov] 63)) := (Only.refl _ _).alloc _
    revert hRW hx1 hbW
    generalize w.alloc (.cells #[.int .i64 1, .int .u64 x, iv, ov] 63) = W
    intro hRW hx1 hbW
    obtain ⟨c, hc, h1⟩ := hRW.sl
    have HRW := Lib.hid hRW
    clear hRW
    obtain ⟨m, hm⟩ : ∃ m, m = o + k := ⟨_, rfl⟩
    have e1 : IntKind.i64.wrap ((o : Int) + k) = (m : Int) := by rw [IntKind.wrap_i64]; omega
    have e3 : m ≤ c := by omega
    have e4 : ¬ c = o := by omega
    have e5 : o ≤ m := by omega
    have e6 := Lib.hid (show m - o = k by omega)
    clear hm
    refine Reg.start (S := (fun w' => w'.cell? ⟨rb, 1, none⟩ = some (.slice (some ⟨bb, 0, none⟩) n c) ∧ w'.cell? ⟨w.heap.size, 1, none⟩ = some (.int .u64 x))) (B := (fun j => [11].contains j)) (by kernel_rfl) ?_
    refine Reg.take0 (i := 0) (v := ?_) rfl (by kernel_rfl) (by kernel_rfl) (by kernel_rfl) (by kernel_rfl) (fun _ _ _ h => h) (Or.inl ⟨by rfl, ?_⟩) ?_
    rotate_left
    · (intro w _; go_simp; try with_reducible rfl)
    try simp only [Act.put, List.setIfInBounds_toArray, List.set_cons_zero, List.set_cons_succ]
    refine Reg.take0 (i := 1) (v := ?_) rfl (by kernel_rfl) (by kernel_rfl) (by kernel_rfl) (by kernel_rfl) (fun _ _ _ h => h) (Or.inl ⟨by rfl, ?_⟩) ?_
    rotate_left
    · (intro w _; go_simp; try with_reducible rfl)
    try simp only [Act.put, List.setIfInBounds_toArray, List.set_cons_zero, List.set_cons_succ]
    refine Reg.take0 (i := 2) (v := ?_) rfl (by kernel_rfl) (by kernel_rfl) (by kernel_rfl) (by kernel_rfl) (fun _ _ _ h => h) (Or.inl ⟨by rfl, ?_⟩) ?_
    rotate_left
    · (intro w _; go_simp; try with_reducible rfl)
    try simp only [Act.put, List.setIfInBounds_toArray, List.set_cons_zero, List.set_cons_succ]
    refine Reg.take1 (i := 3) (v := ?_) rfl (by kernel_rfl) (by kernel_rfl) (by kernel_rfl) (by kernel_rfl) (by kernel_rfl) (fun _ _ _ h => h) (Or.inl ⟨by rfl, ?_⟩) ⟨kp0 h1, kp0 hx1⟩ ?_
    rotate_left
    · (intro w hS; obtain ⟨hs1, hs2⟩ := hS; go_simp; try with_reducible rfl)
    try simp only [Act.put, List.setIfInBounds_toArray, List.set_cons_zero, List.set_cons_succ]
    refine Reg.take0 (i := 4) (v := ?_) rfl (by kernel_rfl) (by kernel_rfl) (by kernel_rfl) (by kernel_rfl) (fun _ _ _ h => h) (Or.inl ⟨by rfl, ?_⟩) ?_
    rotate_left
    · (intro w _; go_simp; try with_reducible rfl)
    try simp only [Act.put, List.setIfInBounds_toArray, List.set_cons_zero, List.set_cons_succ]
    refine Reg.take0 (i := 5) (v := ?_) rfl (by kernel_rfl) (by kernel_rfl) (by kernel_rfl) (by kernel_rfl) (fun _ _ _ h => h) (Or.inl ⟨by rfl, ?_⟩) ?_
    rotate_left
    · (intro w _; go_simp; try with_reducible rfl)
    try simp only [Act.put, List.setIfInBounds_toArray, List.set_cons_zero, List.set_cons_succ]
    refine Reg.take0 (i := 6) (v := ?_) rfl (by kernel_rfl) (by kernel_rfl) (by kernel_rfl) (by kernel_rfl) (fun _ _ _ h => h) (Or.inl ⟨by rfl, ?_⟩) ?_
    rotate_left
    · (intro w _; go_simp; try with_reducible rfl)
    try simp only [Act.put, List.setIfInBounds_toArray, List.set_cons_zero, List.set_cons_succ]
    refine Reg.take0 (i := 7) (v := .int .i64 (m : Int)) rfl (by kernel_rfl) (by kernel_rfl) (by kernel_rfl) (by kernel_rfl) (fun _ _ _ h => h) (Or.inl ⟨by rfl, ?_⟩) ?_
    · (intro w _; go_simp; try with_reducible rfl)
    try simp only [Act.put, List.setIfInBounds_toArray, List.set_cons_zero, List.set_cons_succ]
    refine Reg.take0 (i := 8) (v := .slice (some ⟨bb, o, none⟩) (m - o) (c - o)) rfl (by kernel_rfl) (by kernel_rfl) (by kernel_rfl) (by kernel_rfl) (fun _ _ _ h => h) (Or.inl ⟨by rfl, ?_⟩) ?_
    · (intro w _; go_simp; try with_reducible rfl)
    try simp only [Act.put, List.setIfInBounds_toArray, List.set_cons_zero, List.set_cons_succ]
    refine Reg.take0 (i := 9) (v := ?_) rfl (by kernel_rfl) (by kernel_rfl) (by kernel_rfl) (by kernel_rfl) (fun _ _ _ h => h) (Or.inl ⟨by rfl, ?_⟩) ?_
    rotate_left
    · (intro w _; go_simp; try with_reducible rfl)
    try simp only [Act.put, List.setIfInBounds_toArray, List.set_cons_zero, List.set_cons_succ]
    refine Reg.take1 (i := 10) (v := ?_) rfl (by kernel_rfl) (by kernel_rfl) (by kernel_rfl) (by kernel_rfl) (by kernel_rfl) (fun _ _ _ h => h) (Or.inl ⟨by rfl, ?_⟩) ⟨kp0 h1, kp0 hx1⟩ ?_
    rotate_left
    · (intro w hS; obtain ⟨hs1, hs2⟩ := hS; go_simp; try with_reducible rfl)
    try simp only [Act.put, List.setIfInBounds_toArray, List.set_cons_zero, List.set_cons_succ]
    rw [e6.out]
    refine Reg.only (i := 11) (by kernel_rfl) rfl (fun K hK => ?_)
    go_simp
    refine (f93_ok _ bb o k _ x _ hk hx ((HRW.out.drew).part hn) HRW.out.drew.thaw).mono ?_; rintro e w2 ⟨rfl, ho2, hb2, ht2, hc2⟩
    simp only []
    refine hK _ _ (fun hb => absurd hb (by decide)) ?_
    clear hK K
    try simp only [Act.put, List.setIfInBounds_toArray, List.set_cons_zero, List.set_cons_succ]
    refine Reg.done (by kernel_rfl) ?_ _
    go_wp2_with fail
    go_returns
    exact ⟨rfl, (hbW.drew).then ho2 (fun i _ h => h), HRW.out.drew.lay hn ho2 hb2 ht2 hc2⟩
end Go.Proofs.Ytmjeloinibembaa
