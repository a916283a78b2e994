/-
  RegionApart: the walk of the law.
-/
import Derived.Test.YtmjeloinibembaaKn8
namespace Go.Proofs.Ytmjeloinibembaa
open Go.RowKit
set_option linter.unusedVariables false
set_option linter.unusedSimpArgs false
theorem add_no {B : Nat} {w : World} {mb : Nat} {v : Value} {l : List (Bool × Nat)} (M : MemRow B w mb v l) {k e : Nat} (hk : KindAt w k e) (h83 : e ≠ 83) (h90 : e ≠ 90) : ¬ (k = mb ∨ v.ownBlock = some k) := fun h => by
  rcases h with rfl | h
  · exact h83 (hk.inj M.kind)
  · exact h90 (hk.inj (own_kind M.own h).1)
/-- regions and frames in turns, none of them written. -/
structure Fam (B : Nat) (w : World) (n : Nat) (l : List (Bool × Nat)) (R Q : Nat → Nat) : Prop where
  len : l.length = n
  at' : ∀ j, j < n → l[j]? = some (decide (j % 2 = 1), R j)
  ge : ∀ j, j < n → B ≤ R j
  reg : ∀ j, j < n → j % 2 = 0 → RegAt w (R j) (Q j) false true 8 (fun _ => 0) ∧ B ≤ Q j
  frm : ∀ j, j < n → j % 2 = 1 → FrameAt w (R j) FS.zero
  neR : ∀ i j, i < n → j < n → i ≠ j → R i ≠ R j
  neQ : ∀ i j, i < n → j < n → i % 2 = 0 → j % 2 = 0 → i ≠ j → Q i ≠ Q j
theorem Fam.ltR {B : Nat} {w : World} {n : Nat} {l : List (Bool × Nat)} {R Q : Nat → Nat} (h : Fam B w n l R Q) {j : Nat} (hj : j < n) : R j < w.heap.size := by
  rcases Nat.mod_two_eq_zero_or_one j with h2 | h2
  · exact (h.reg j hj h2).1.ltR
  · exact (h.frm j hj h2).kind.lt
theorem Fam.below {B : Nat} {w w' : World} {n : Nat} {l : List (Bool × Nat)} {R Q : Nat → Nat} (h : Fam B w n l R Q) (hb : Below w.heap.size w w') : Fam B w' n l R Q :=
  ⟨h.len, h.at', h.ge, fun j hj h2 => ⟨(h.reg j hj h2).1.below.out w' hb, (h.reg j hj h2).2⟩, fun j hj h2 => (h.frm j hj h2).below.out w' hb, h.neR, h.neQ⟩
theorem Fam.add {B : Nat} {w w' : World} {n mb rb bb : Nat} {v : Value} {l : List (Bool × Nat)} {R Q : Nat → Nat} (h : Fam B w n l R Q) (M : MemRow B w mb v l) (hn : n % 2 = 0) (hO : Only (fun k => k = mb ∨ v.ownBlock = some k) w w') (hr : RegAt w' rb bb false true 8 (fun _ => 0))
    (h1 : w.heap.size ≤ rb) (h2 : w.heap.size ≤ bb) (hB : B ≤ w.heap.size) : Fam B w' (n + 1) (l ++ [(false, rb)]) (upd R n rb) (upd Q n bb) := by
  refine ⟨by simp [h.len], fun j hj => ?_, fun j hj => ?_, fun j hj hj2 => ?_, fun j hj hj2 => ?_, fun i j hi hj hij => ?_, fun i j hi hj hi2 hj2 hij => ?_⟩
  · by_cases e : j = n
    · subst e; rw [upd_same, List.getElem?_append_right (by rw [h.len]; exact Nat.le_refl _), h.len]; simp [hn]
    · rw [upd_ne _ _ e, List.getElem?_append_left (by have := h.len; omega)]; exact h.at' j (by omega)
  · by_cases e : j = n
    · subst e; rw [upd_same]; omega
    · rw [upd_ne _ _ e]; exact h.ge j (by omega)
  · by_cases e : j = n
    · subst e; rw [upd_same, upd_same]; exact ⟨hr, by omega⟩
    · rw [upd_ne _ _ e, upd_ne _ _ e]
      obtain ⟨h3, h4⟩ := h.reg j (by omega) hj2
      exact ⟨h3.only hO (add_no M h3.kR (by decide) (by decide)) (add_no M h3.kB (by decide) (by decide)), h4⟩
  · have e : j ≠ n := by omega
    rw [upd_ne _ _ e]
    have h3 := h.frm j (by omega) hj2
    exact h3.only hO (add_no M h3.kind (by decide) (by decide))
  · by_cases e1 : i = n
    · subst e1; rw [upd_same, upd_ne _ _ (by omega)]; have := h.ltR (j := j) (by omega); omega
    · by_cases e2 : j = n
      · subst e2; rw [upd_same, upd_ne _ _ e1]; have := h.ltR (j := i) (by omega); omega
      · rw [upd_ne _ _ e1, upd_ne _ _ e2]; exact h.neR i j (by omega) (by omega) hij
  · by_cases e1 : i = n
    · subst e1; rw [upd_same, upd_ne _ _ (by omega)]; have := (h.reg j (by omega) hj2).1.lt; omega
    · by_cases e2 : j = n
      · subst e2; rw [upd_same, upd_ne _ _ e1]; have := (h.reg i (by omega) hi2).1.lt; omega
      · rw [upd_ne _ _ e1, upd_ne _ _ e2]; exact h.neQ i j (by omega) (by omega) hi2 hj2 hij
theorem Fam.frame {B : Nat} {w w' : World} {n mb fb : Nat} {v : Value} {l : List (Bool × Nat)} {R Q : Nat → Nat} (h : Fam B w n l R Q) (M : MemRow B w mb v l) (hn : n % 2 = 1) (hO : Only (fun k => k = mb ∨ v.ownBlock = some k) w w') (hr : FrameAt w' fb FS.zero)
    (h1 : w.heap.size ≤ fb) (hB : B ≤ w.heap.size) : Fam B w' (n + 1) (l ++ [(true, fb)]) (upd R n fb) Q := by
  refine ⟨by simp [h.len], fun j hj => ?_, fun j hj => ?_, fun j hj hj2 => ?_, fun j hj hj2 => ?_, fun i j hi hj hij => ?_, fun i j hi hj hi2 hj2 hij => h.neQ i j (by omega) (by omega) hi2 hj2 hij⟩
  · by_cases e : j = n
    · subst e; rw [upd_same, List.getElem?_append_right (by rw [h.len]; exact Nat.le_refl _), h.len]; simp [hn]
    · rw [upd_ne _ _ e, List.getElem?_append_left (by have := h.len; omega)]; exact h.at' j (by omega)
  · by_cases e : j = n
    · subst e; rw [upd_same]; omega
    · rw [upd_ne _ _ e]; exact h.ge j (by omega)
  · have e : j ≠ n := by omega
    rw [upd_ne _ _ e]
    obtain ⟨h3, h4⟩ := h.reg j (by omega) hj2
    exact ⟨h3.only hO (add_no M h3.kR (by decide) (by decide)) (add_no M h3.kB (by decide) (by decide)), h4⟩
  · by_cases e : j = n
    · subst e; rw [upd_same]; exact hr
    · rw [upd_ne _ _ e]
      have h3 := h.frm j (by omega) hj2
      exact h3.only hO (add_no M h3.kind (by decide) (by decide))
  · by_cases e1 : i = n
    · subst e1; rw [upd_same, upd_ne _ _ (by omega)]; have := h.ltR (j := j) (by omega); omega
    · by_cases e2 : j = n
      · subst e2; rw [upd_same, upd_ne _ _ e1]; have := h.ltR (j := i) (by omega); omega
      · rw [upd_ne _ _ e1, upd_ne _ _ e2]; exact h.neR i j (by omega) (by omega) hij

set_option maxRecDepth 100000 in
set_option maxHeartbeats 1000000 in
theorem f44_even (w : World) {j : Nat} (hj : j % 2 = 0) (hj40 : j < 100) : Calls Try.prog 44 #[.int .i64 j] w fun e w' => e = .returned (.agg #[.int .i64 5, .int .u64 0, .int .i64 (j + 1), .int .i64 0]) ∧ Below w.heap.size w w' := by
  have e1 : ((j : Int) % 2) = 0 := by omega
  go_enter Try.func44, Try.ntmps44
  go_wp2_with fail
  go_returns
  exact ⟨rfl, Below.one _⟩
set_option maxRecDepth 100000 in
set_option maxHeartbeats 1000000 in
theorem f44_odd (w : World) {j : Nat} (hj : j % 2 = 1) (hj40 : j < 100) : Calls Try.prog 44 #[.int .i64 j] w fun e w' => e = .returned (.agg #[.int .i64 2, .int .u64 0, .int .i64 (j + 1), .int .i64 (-8)]) ∧ Below w.heap.size w w' := by
  have e1 : ((j : Int) % 2) = 1 := by omega
  go_enter Try.func44, Try.ntmps44
  go_wp2_with fail
  go_returns
  exact ⟨rfl, Below.one _⟩
theorem pick_ok (a : Int) {n : Nat} (hn : 0 < n) (hn40 : n ≤ 40) : ∃ k : Nat, k < n ∧ (wrap64 (a.tmod n + n)).tmod n = (k : Int) := by
  have h1 := Int.natAbs_tmod a n
  have h2 : a.natAbs % (n : Int).natAbs < n := by
    have : (n : Int).natAbs = n := Int.natAbs_natCast n
    rw [this]; exact Nat.mod_lt _ hn
  rw [← h1] at h2
  have h3 : wrap64 (a.tmod n + n) = a.tmod n + n := by unfold wrap64; omega
  rw [h3, Int.tmod_eq_emod_of_nonneg (by omega)]
  have h4 := Int.emod_nonneg (a.tmod n + n) (show (n : Int) ≠ 0 by omega)
  have h5 := Int.emod_lt_of_pos (a.tmod n + n) (show (0 : Int) < n by omega)
  exact ⟨((a.tmod n + n) % n).toNat, by omega, by omega⟩
theorem numB_zero (k : Nat) : numB (fun _ => 0) k = 0 := by
  induction k with
  | zero => rfl
  | succ k ih => simp [numB, ih]
theorem read_zero : readT FS.zero 504 8 = 1 := by
  unfold readT
  have h1 : wrT FS.zero 504 8 = false := decide_eq_false fun h => absurd (h 0 (by decide)) (by simp [FS.zero])
  rw [tagT_no (fun _ => rfl), hasT_no (fun _ => rfl), h1]; rfl
theorem wrote_read {F : FS} {o n : Nat} {g : Nat → Nat} (ht : ∀ s, F.tag s = 0) (hn : 0 < n) : readT (wrote F o n g) o n = 0 := by
  unfold readT
  have h1 : tagT (wrote F o n g) o n = false := tagT_no fun s => by show (wipe F _ _).tag s = 0; rw [wipe_tag]; exact ht s
  have h2 : hasT (wrote F o n g) o n = false := decide_eq_false fun ⟨k, hk, hh⟩ => by
    have hh' : (wipe F (o / 8) ((o + n - 1) / 8 + 1 - o / 8)).has (o / 8 + k) = true := hh
    rw [wipe_has, if_pos (by omega)] at hh'
    exact absurd hh' (by decide)
  have h3 : wrT (wrote F o n g) o n = true := decide_eq_true fun k hk => by
    show (if o ≤ o + k ∧ o + k < o + n then true else _) = true
    rw [if_pos (by omega)]
  rw [h1, h2, h3]; rfl
theorem numB_lay (f : Nat → Nat) (x o k : Nat) (h : ∀ i, i < k → f i = x / 2 ^ (8 * (o + i)) % 256) : numB f k = x / 2 ^ (8 * o) % 2 ^ (8 * k) := by
  induction k with
  | zero => simp [numB, Nat.mod_one]
  | succ k ih =>
    rw [numB, ih (fun i hi => h i (by omega)), h k (by omega)]
    have e1 : 2 ^ (8 * (o + k)) = 2 ^ (8 * o) * 2 ^ (8 * k) := by rw [← Nat.pow_add]; congr 1; omega
    have e2 : 2 ^ (8 * (k + 1)) = 2 ^ (8 * k) * 256 := by rw [show 8 * (k + 1) = 8 * k + 8 by omega, Nat.pow_add]
    rw [e1, e2, ← Nat.div_div_eq_div_mul, Nat.mod_mul, Nat.mul_comm (x / 2 ^ (8 * o) / 2 ^ (8 * k) % 256)]
theorem numB_eight {f : Nat → Nat} {x : Nat} (hx : x < 2 ^ 64) (h : ∀ i, i < 8 → f i = x / 2 ^ (8 * i) % 256) : numB f 8 = x := by
  rw [numB_lay f x 0 8 (fun i hi => by rw [Nat.zero_add]; exact h i hi)]
  simp only [Nat.mul_zero, Nat.pow_zero, Nat.div_one]
  exact Nat.mod_eq_of_lt hx
/-- what a load of number j's place tells, behind the store into number m's. -/
def apartNum (m x j : Nat) : Nat := if j = m then x else 0
def apartTrap (m j : Nat) : Int := if j = m ∨ j % 2 = 0 then 0 else 1
def apartKind (m j : Nat) : Int := if j = m ∨ j % 2 = 0 then 1 else 0
set_option maxRecDepth 100000 in
set_option maxHeartbeats 8000000 in
theorem apart (a0 a1 : Int) (x : Nat) (hx : x < 2 ^ 64) (w : World) :
    Calls Try.prog 9 #[.int .i64 a0, .int .i64 a1, .int .u64 x] w fun e w' => e = .returned (.bool true) ∧ Below w.heap.size w w' := by
  have hx' := Lib.hid hx
  clear hx
  go_enter Try.func9, Try.ntmps9
  go_wp2_with fail
  refine (f39_ok w).mono ?_; rintro e w1 ⟨rfl, hb1⟩
  have hb1' := Lib.hid hb1
  go_wp2_with fail
  all_goals try (go_ret; exact ⟨rfl, hb1⟩)
  clear hb1
  obtain ⟨n, hn⟩ : ∃ n : Nat, a0 = n := ⟨a0.toNat, by omega⟩
  subst hn
  have hn40 : Hid (1 ≤ n ∧ n ≤ 40) := Lib.hid (by omega)
  refine (f14_ok w1).mono ?_; rintro e w2 ⟨rfl, hw2⟩
  have hM2 : Hid (MemRow w1.heap.size w2 w1.heap.size (.slice none 0 0) []) := Lib.hid (hw2 ▸ MemRow.new w1)
  have hb2 : Hid (Below w1.heap.size w1 w2) := Lib.hid (hw2 ▸ Below.one _)
  clear hw2
  obtain ⟨mb, hmb⟩ : ∃ mb, Hid (w1.heap.size = mb) := ⟨_, Lib.hid rfl⟩
  go_wp2_with fail
  go_loopw [8] (fun i wr => ∃ (k : Nat) (v : Value) (l : List (Bool × Nat)) (R Q : Nat → Nat), k ≤ n ∧ i = .int .i64 k ∧ Hid (MemRow w1.heap.size wr w1.heap.size v l) ∧ Hid (Fam w1.heap.size wr k l R Q) ∧ Hid (Below w1.heap.size w1 wr)) (fun i _ => n - (intOf i).toNat)
  case atStart => exact ⟨0, _, [], fun _ => 0, fun _ => 0, by omega, rfl, hM2, Lib.hid ⟨rfl, fun j hj => absurd hj (by omega), fun j hj => absurd hj (by omega), fun j hj => absurd hj (by omega), fun j hj => absurd hj (by omega), fun i j hi => absurd hi (by omega), fun i j hi => absurd hi (by omega)⟩, hb2⟩
  case round =>
    obtain ⟨k, v, l, R, Q, hk, rfl, hM, hF, hB⟩ := hrel
    have hnn := hn40.out
    by_cases hlt : k < n
    · rcases Nat.mod_two_eq_zero_or_one k with hk2 | hk2
      · have e1 : ((k : Int) % 2) = 0 := by omega
        obtain ⟨w3, hmk, hbt, hth, hk5, hb3, hl3⟩ := make_bytes wr (n := 8) (v := 8) (by decide) rfl
        have hBT := Lib.hid hbt
        have hM3 := Lib.hid (hM.out.below hb3)
        have hF3 := Lib.hid (hF.out.below hb3)
        have hB3 := Lib.hid (below_then hB.out hb3)
        have hll : Hid (l.length + 1 < 2 ^ 30) := Lib.hid (by rw [hF.out.len]; omega)
        have hle : Hid (((l.length + 1 : Nat) : Int) = (k : Int) + 1) := Lib.hid (by rw [hF.out.len]; omega)
        clear hbt hth hk5 hb3 hl3
        go_wp2_with fail
        refine (f43_ok w1.heap.size w3 hM3 hll (Lib.hid hB3.out.size) hBT (Lib.hid (by decide)) (Lib.hid fun i hi => by decide) true).mono ?_; rintro e w4 ⟨rb, bb, v4, rfl, M4, R4, hrb, hbb, O4⟩
        have hB4 : Hid (Below w1.heap.size w1 w4) := Lib.hid (hB3.out.trans (O4.belowN hB3.out.size (fun j hj he => by
          rcases he with rfl | he
          · omega
          · have := (own_kind hM3.out.own he).2; omega)))
        have hF4 := Lib.hid (hF3.out.add hM3.out hk2 O4 R4 hrb hbb hB3.out.size)
        have hM4 := Lib.hid M4
        clear M4 R4 O4 hmk hrb hbb
        rw [hle.out]
        go_wp2_with fail
        go_roundw
        case rel => exact ⟨k + 1, _, _, _, _, by omega, by go_num, hM4, hF4, hB4⟩
        case measure => simp [intOf]; omega
      · have e1 : ((k : Int) % 2) = 1 := by omega
        have hll : Hid (l.length + 1 < 2 ^ 30) := Lib.hid (by rw [hF.out.len]; omega)
        have hle : Hid (((l.length + 1 : Nat) : Int) = (k : Int) + 1) := Lib.hid (by rw [hF.out.len]; omega)
        go_wp2_with fail
        refine (f40_ok w1.heap.size wr hM hll (Lib.hid hB.out.size)).mono ?_; rintro e w4 ⟨fb, v4, rfl, M4, F4, hfb, O4⟩
        have hB4 : Hid (Below w1.heap.size w1 w4) := Lib.hid (hB.out.trans (O4.belowN hB.out.size (fun j hj he => by
          rcases he with rfl | he
          · omega
          · have := (own_kind hM.out.own he).2; omega)))
        have hF4 := Lib.hid (hF.out.frame hM.out hk2 O4 F4 hfb hB.out.size)
        have hM4 := Lib.hid M4
        clear M4 F4 O4 hfb
        rw [hle.out]
        go_wp2_with fail
        go_roundw
        case rel => exact ⟨k + 1, _, _, _, _, by omega, by go_num, hM4, hF4, hB4⟩
        case measure => simp [intOf]; omega
    · have : k = n := by omega
      subst this
      obtain ⟨m, hmn, hm⟩ := pick_ok a1 (n := k) (by omega) (by omega)
      have hmk := Lib.hid hm
      clear hm
      go_wp2_with fail
      rw [hmk.out]
      have hrow : Hid (l[m]? = some (decide (m % 2 = 1), R m)) := Lib.hid (hF.out.at' m hmn)
      have hm40 : m < 100 := by omega
      rcases Nat.mod_two_eq_zero_or_one m with hm2 | hm2
      · refine (f44_even wr hm2 hm40).mono ?_; rintro e w3 ⟨rfl, hb3⟩
        have hM3 := Lib.hid (hM.out.below hb3)
        have hF3 := Lib.hid (hF.out.below hb3)
        have hB3 := Lib.hid (below_then hB.out hb3)
        clear hb3
        have hR3 := Lib.hid (hF3.out.reg m hmn hm2).1
        have hQ3 := Lib.hid (hF3.out.reg m hmn hm2).2
        have hx3 : Hid (l[m]? = some (false, R m)) := Lib.hid (by rw [hrow.out]; simp [hm2])
        go_wp2_with fail
        refine (st_reg hM3 (i := (m : Int) + 1) (j := m) (Lib.hid rfl) hR3 hx3 (o := 0) (k := 8) (Lib.hid (by decide)) (.int .u64 0) (Lib.hid (by decide)) hx'.out 0 0).mono ?_; rintro e w4 ⟨rfl, O4, R4, M4⟩
        simp only [if_true] at R4 ⊢
        have hM4 := Lib.hid M4
        have hR4 := Lib.hid R4
        have hB4 : Hid (Below w1.heap.size w1 w4) := Lib.hid (hB3.out.trans (O4.belowN hB3.out.size (fun j hj he => by have := hQ3.out; omega)))
        have hO : Hid (∀ j, j < k → j ≠ m → (j % 2 = 0 → RegAt w4 (R j) (Q j) false true 8 (fun _ => 0)) ∧ (j % 2 = 1 → FrameAt w4 (R j) FS.zero)) := Lib.hid fun j hj hjm =>
          ⟨fun hj2 => (hF3.out.reg j hj hj2).1.only O4 (fun he => absurd ((hF3.out.reg j hj hj2).1.kR.inj (he ▸ hR3.out.kB)) (by decide)) (hF3.out.neQ j m hj hmn hj2 hm2 hjm),
           fun hj2 => (hF3.out.frm j hj hj2).only O4 (fun he => absurd ((hF3.out.frm j hj hj2).kind.inj (he ▸ hR3.out.kB)) (by decide))⟩
        have hat : Hid (∀ j, j < k → l[j]? = some (decide (j % 2 = 1), R j)) := Lib.hid hF3.out.at'
        have hload : Hid (∀ w5, Below w4.heap.size w4 w5 → ∀ j, j < k → ∃ kk : Int, Calls Try.prog 42 #[.pointer (some ⟨w1.heap.size, 0, none⟩), if j % 2 = 0 then .agg #[.int .i64 5, .int .u64 0, .int .i64 (j + 1), .int .i64 0] else .agg #[.int .i64 2, .int .u64 0, .int .i64 (j + 1), .int .i64 (-8)], .int .i64 8] w5 fun e w' => e = .returned (.tuple #[.agg #[.int .i64 kk, .int .u64 (apartNum m x j : Nat), .int .i64 0, .int .i64 0], .int .i64 (apartTrap m j)]) ∧ Below w5.heap.size w5 w') := Lib.hid fun w5 hb5 j hj => by
          have hM5 := Lib.hid (hM4.out.below hb5)
          have hxj := hat.out j hj
          by_cases hjm : j = m
          · subst hjm
            rw [if_pos hm2, show apartNum j x j = x by simp [apartNum], show apartTrap j j = 0 by simp [apartTrap]]
            have h := ld_reg hM5 (i := (j : Int) + 1) (j := j) (Lib.hid rfl) (Lib.hid (hR4.out.below.out w5 hb5)) hx3 (o := 0) (k := 8) (Lib.hid (by decide)) (.int .u64 0) (Lib.hid (by decide))
            rw [numB_eight (x := x) hx'.out (fun i hi => by simp only [layB]; rw [if_pos (by omega)]; simp)] at h
            exact ⟨1, h⟩
          · obtain ⟨h1, h2⟩ := hO.out j hj hjm
            rcases Nat.mod_two_eq_zero_or_one j with hj2 | hj2
            · rw [if_pos hj2, show apartNum m x j = 0 by simp [apartNum, hjm], show apartTrap m j = 0 by simp [apartTrap, hj2]]
              have h := ld_reg hM5 (i := (j : Int) + 1) (j := j) (Lib.hid rfl) (Lib.hid ((h1 hj2).below.out w5 hb5)) (Lib.hid (by rw [hxj]; simp [hj2])) (o := 0) (k := 8) (Lib.hid (by decide)) (.int .u64 0) (Lib.hid (by decide))
              rw [numB_zero] at h
              exact ⟨1, h⟩
            · rw [if_neg (by omega), show apartNum m x j = 0 by simp [apartNum, hjm], show apartTrap m j = 1 by simp [apartTrap, hjm, hj2]]
              exact ⟨0, ld_trap hM5 (i := (j : Int) + 1) (j := j) (Lib.hid rfl) (Lib.hid ((h2 hj2).below.out w5 hb5)) (Lib.hid (by rw [hxj]; simp [hj2])) (off := -8) (o := 504) (Lib.hid (by decide)) (n := 8) (Lib.hid (by decide)) (Lib.hid (by decide)) (.int .u64 0) (by simp [FS.zero]) (Lib.hid read_zero) (by decide)⟩
        clear R4 M4 O4 hO hR4 hR3 hQ3 hF3 hM3 hB3 hF hM hB hx3 hrow
        go_wp2_with fail
        go_loopw [11] (fun i w5 => ∃ j : Nat, j ≤ k ∧ i = .int .i64 j ∧ Hid (Below w4.heap.size w4 w5)) (fun i _ => k - (intOf i).toNat)
        case atStart => exact ⟨0, by omega, rfl, Lib.hid (Below.refl _ _)⟩
        case round =>
          obtain ⟨j, hj, rfl, hb5⟩ := hrel
          by_cases hjk : j < k
          · have hj100 : j < 100 := by omega
            obtain ⟨ap, hap⟩ : ∃ ap, Hid (apartNum m x j = ap) := ⟨_, Lib.hid rfl⟩
            rcases Nat.mod_two_eq_zero_or_one j with hj2 | hj2
            · have e1 : ((j : Int) % 2) = 0 := by omega
              have htr : apartTrap m j = 0 := by simp [apartTrap, hj2]
              have hv : Hid (if j = m then ap = x else ap = 0) := Lib.hid (by rw [← hap.out]; unfold apartNum; split <;> rfl)
              have htr' := Lib.hid htr
              clear htr
              by_cases hjm : j = m
              · have e2 : ((j : Int) == (m : Int)) = true := by simp [hjm]
                have e3 : ap = x := by have := hv.out; rwa [if_pos hjm] at this
                have e3' := Lib.hid e3
                have hjm' := Lib.hid hjm
                clear hjm e3
                go_wp2_with fail
                refine (f44_even _ hj2 hj100).mono ?_; rintro e w6 ⟨rfl, hb6⟩
                have hb6' := Lib.hid (below_then hb5.out hb6)
                obtain ⟨kk, hl⟩ := hload.out w6 hb6'.out j hjk
                rw [if_pos hj2, htr'.out, hap.out, e3'.out] at hl
                have hl' := Lib.hid hl
                clear hl hb6
                go_wp2_with fail
                refine hl'.out.mono ?_; rintro e w7 ⟨rfl, hb7⟩
                have hb8 : Hid (∀ ob, Below w4.heap.size w4 (w7.alloc ob)) := Lib.hid fun ob => below_then hb6'.out (below_then hb7 (Below.one ob))
                clear hb7
                go_wp2_with fail
                go_roundw
                case rel => exact ⟨j + 1, by omega, by go_num, Lib.hid (hb8.out _)⟩
                case measure => simp [intOf]; omega
              · have e2 : ((j : Int) == (m : Int)) = false := by simp; omega
                have e3 : ap = 0 := by have := hv.out; rwa [if_neg hjm] at this
                have e3' := Lib.hid e3
                have hjm' := Lib.hid hjm
                clear hjm e3
                go_wp2_with fail
                refine (f44_even _ hj2 hj100).mono ?_; rintro e w6 ⟨rfl, hb6⟩
                have hb6' := Lib.hid (below_then hb5.out hb6)
                obtain ⟨kk, hl⟩ := hload.out w6 hb6'.out j hjk
                rw [if_pos hj2, htr'.out, hap.out, e3'.out] at hl
                have hl' := Lib.hid hl
                clear hl hb6
                go_wp2_with fail
                refine hl'.out.mono ?_; rintro e w7 ⟨rfl, hb7⟩
                have hb8 : Hid (∀ ob, Below w4.heap.size w4 (w7.alloc ob)) := Lib.hid fun ob => below_then hb6'.out (below_then hb7 (Below.one ob))
                clear hb7
                go_wp2_with fail
                go_roundw
                case rel => exact ⟨j + 1, by omega, by go_num, Lib.hid (hb8.out _)⟩
                case measure => simp [intOf]; omega
            · have e1 : ((j : Int) % 2) = 1 := by omega
              by_cases hjm : j = m
              · have e2 : ((j : Int) == (m : Int)) = true := by simp [hjm]
                have htr : Hid (apartTrap m j = 0) := Lib.hid (by simp [apartTrap, hjm])
                have e3' : Hid (ap = x) := Lib.hid (by rw [← hap.out]; simp [apartNum, hjm])
                clear hjm
                go_wp2_with fail
                refine (f44_odd _ hj2 hj100).mono ?_; rintro e w6 ⟨rfl, hb6⟩
                have hb6' := Lib.hid (below_then hb5.out hb6)
                obtain ⟨kk, hl⟩ := hload.out w6 hb6'.out j hjk
                rw [if_neg (by omega), htr.out, hap.out, e3'.out] at hl
                have hl' := Lib.hid hl
                clear hl hb6
                go_wp2_with fail
                refine hl'.out.mono ?_; rintro e w7 ⟨rfl, hb7⟩
                have hb8 : Hid (∀ ob, Below w4.heap.size w4 (w7.alloc ob)) := Lib.hid fun ob => below_then hb6'.out (below_then hb7 (Below.one ob))
                clear hb7
                go_wp2_with fail
                go_roundw
                case rel => exact ⟨j + 1, by omega, by go_num, Lib.hid (hb8.out _)⟩
                case measure => simp [intOf]; omega
              · have e2 : ((j : Int) == (m : Int)) = false := by simp; omega
                have htr : Hid (apartTrap m j = 1) := Lib.hid (by simp [apartTrap, hjm, hj2])
                clear hjm
                go_wp2_with fail
                refine (f44_odd _ hj2 hj100).mono ?_; rintro e w6 ⟨rfl, hb6⟩
                have hb6' := Lib.hid (below_then hb5.out hb6)
                obtain ⟨kk, hl⟩ := hload.out w6 hb6'.out j hjk
                rw [if_neg (by omega), htr.out, hap.out] at hl
                have hl' := Lib.hid hl
                clear hl hb6
                go_wp2_with fail
                refine hl'.out.mono ?_; rintro e w7 ⟨rfl, hb7⟩
                have hb8 : Hid (∀ ob, Below w4.heap.size w4 (w7.alloc ob)) := Lib.hid fun ob => below_then hb6'.out (below_then hb7 (Below.one ob))
                clear hb7
                go_wp2_with fail
                go_roundw
                case rel => exact ⟨j + 1, by omega, by go_num, Lib.hid (hb8.out _)⟩
                case measure => simp [intOf]; omega
          · have : j = k := by omega
            subst this
            go_wp2_with fail
            go_ret
            exact ⟨rfl, below_then hb1'.out (below_then hB4.out hb5.out)⟩
      · refine (f44_odd wr hm2 hm40).mono ?_; rintro e w3 ⟨rfl, hb3⟩
        have hM3 := Lib.hid (hM.out.below hb3)
        have hF3 := Lib.hid (hF.out.below hb3)
        have hB3 := Lib.hid (below_then hB.out hb3)
        clear hb3
        have hR3 := Lib.hid (hF3.out.frm m hmn hm2)
        have hQ3 := Lib.hid (hF3.out.ge m hmn)
        have hx3 : Hid (l[m]? = some (true, R m)) := Lib.hid (by rw [hrow.out]; simp [hm2])
        go_wp2_with fail
        refine (st_num hM3 (i := (m : Int) + 1) (j := m) (Lib.hid rfl) hR3 hx3 (off := -8) (o := 504) (Lib.hid (by decide)) (n := 8) (Lib.hid (by decide)) (Lib.hid (by decide)) (.int .u64 0) hx'.out 0 0 (Lib.hid (tagT_no fun _ => rfl))).mono ?_; rintro e w4 ⟨rfl, O4, R4, M4⟩
        have hM4 := Lib.hid M4
        have hR4 := Lib.hid R4
        have hB4 : Hid (Below w1.heap.size w1 w4) := Lib.hid (hB3.out.trans (O4.belowN hB3.out.size (fun j hj he => by have := hQ3.out; omega)))
        have hO : Hid (∀ j, j < k → j ≠ m → (j % 2 = 0 → RegAt w4 (R j) (Q j) false true 8 (fun _ => 0)) ∧ (j % 2 = 1 → FrameAt w4 (R j) FS.zero)) := Lib.hid fun j hj hjm =>
          ⟨fun hj2 => (hF3.out.reg j hj hj2).1.only O4 (hF3.out.neR j m hj hmn hjm) (fun he => absurd ((hF3.out.reg j hj hj2).1.kB.inj (he ▸ hR3.out.kind)) (by decide)),
           fun hj2 => (hF3.out.frm j hj hj2).only O4 (hF3.out.neR j m hj hmn hjm)⟩
        have hat : Hid (∀ j, j < k → l[j]? = some (decide (j % 2 = 1), R j)) := Lib.hid hF3.out.at'
        have hload : Hid (∀ w5, Below w4.heap.size w4 w5 → ∀ j, j < k → ∃ kk : Int, Calls Try.prog 42 #[.pointer (some ⟨w1.heap.size, 0, none⟩), if j % 2 = 0 then .agg #[.int .i64 5, .int .u64 0, .int .i64 (j + 1), .int .i64 0] else .agg #[.int .i64 2, .int .u64 0, .int .i64 (j + 1), .int .i64 (-8)], .int .i64 8] w5 fun e w' => e = .returned (.tuple #[.agg #[.int .i64 kk, .int .u64 (apartNum m x j : Nat), .int .i64 0, .int .i64 0], .int .i64 (apartTrap m j)]) ∧ Below w5.heap.size w5 w') := Lib.hid fun w5 hb5 j hj => by
          have hM5 := Lib.hid (hM4.out.below hb5)
          have hxj := hat.out j hj
          by_cases hjm : j = m
          · subst hjm
            rw [if_neg (by omega), show apartNum j x j = x by simp [apartNum], show apartTrap j j = 0 by simp [apartTrap]]
            have h := ld_num hM5 (i := (j : Int) + 1) (j := j) (Lib.hid rfl) (Lib.hid (hR4.out.below.out w5 hb5)) hx3 (off := -8) (o := 504) (Lib.hid (by decide)) (n := 8) (Lib.hid (by decide)) (Lib.hid (by decide)) (.int .u64 0) (Lib.hid (wrote_read (fun _ => rfl) (by decide)))
            rw [numB_eight (x := x) hx'.out (fun i hi => by simp only [wrote]; rw [if_pos (by omega)]; simp)] at h
            exact ⟨1, h⟩
          · obtain ⟨h1, h2⟩ := hO.out j hj hjm
            rcases Nat.mod_two_eq_zero_or_one j with hj2 | hj2
            · rw [if_pos hj2, show apartNum m x j = 0 by simp [apartNum, hjm], show apartTrap m j = 0 by simp [apartTrap, hj2]]
              have h := ld_reg hM5 (i := (j : Int) + 1) (j := j) (Lib.hid rfl) (Lib.hid ((h1 hj2).below.out w5 hb5)) (Lib.hid (by rw [hxj]; simp [hj2])) (o := 0) (k := 8) (Lib.hid (by decide)) (.int .u64 0) (Lib.hid (by decide))
              rw [numB_zero] at h
              exact ⟨1, h⟩
            · rw [if_neg (by omega), show apartNum m x j = 0 by simp [apartNum, hjm], show apartTrap m j = 1 by simp [apartTrap, hjm, hj2]]
              exact ⟨0, ld_trap hM5 (i := (j : Int) + 1) (j := j) (Lib.hid rfl) (Lib.hid ((h2 hj2).below.out w5 hb5)) (Lib.hid (by rw [hxj]; simp [hj2])) (off := -8) (o := 504) (Lib.hid (by decide)) (n := 8) (Lib.hid (by decide)) (Lib.hid (by decide)) (.int .u64 0) (by simp [FS.zero]) (Lib.hid read_zero) (by decide)⟩
        clear R4 M4 O4 hO hR4 hR3 hQ3 hF3 hM3 hB3 hF hM hB hx3 hrow
        go_wp2_with fail
        go_loopw [11] (fun i w5 => ∃ j : Nat, j ≤ k ∧ i = .int .i64 j ∧ Hid (Below w4.heap.size w4 w5)) (fun i _ => k - (intOf i).toNat)
        case atStart => exact ⟨0, by omega, rfl, Lib.hid (Below.refl _ _)⟩
        case round =>
          obtain ⟨j, hj, rfl, hb5⟩ := hrel
          by_cases hjk : j < k
          · have hj100 : j < 100 := by omega
            obtain ⟨ap, hap⟩ : ∃ ap, Hid (apartNum m x j = ap) := ⟨_, Lib.hid rfl⟩
            rcases Nat.mod_two_eq_zero_or_one j with hj2 | hj2
            · have e1 : ((j : Int) % 2) = 0 := by omega
              have htr : apartTrap m j = 0 := by simp [apartTrap, hj2]
              have hv : Hid (if j = m then ap = x else ap = 0) := Lib.hid (by rw [← hap.out]; unfold apartNum; split <;> rfl)
              have htr' := Lib.hid htr
              clear htr
              by_cases hjm : j = m
              · have e2 : ((j : Int) == (m : Int)) = true := by simp [hjm]
                have e3 : ap = x := by have := hv.out; rwa [if_pos hjm] at this
                have e3' := Lib.hid e3
                have hjm' := Lib.hid hjm
                clear hjm e3
                go_wp2_with fail
                refine (f44_even _ hj2 hj100).mono ?_; rintro e w6 ⟨rfl, hb6⟩
                have hb6' := Lib.hid (below_then hb5.out hb6)
                obtain ⟨kk, hl⟩ := hload.out w6 hb6'.out j hjk
                rw [if_pos hj2, htr'.out, hap.out, e3'.out] at hl
                have hl' := Lib.hid hl
                clear hl hb6
                go_wp2_with fail
                refine hl'.out.mono ?_; rintro e w7 ⟨rfl, hb7⟩
                have hb8 : Hid (∀ ob, Below w4.heap.size w4 (w7.alloc ob)) := Lib.hid fun ob => below_then hb6'.out (below_then hb7 (Below.one ob))
                clear hb7
                go_wp2_with fail
                go_roundw
                case rel => exact ⟨j + 1, by omega, by go_num, Lib.hid (hb8.out _)⟩
                case measure => simp [intOf]; omega
              · have e2 : ((j : Int) == (m : Int)) = false := by simp; omega
                have e3 : ap = 0 := by have := hv.out; rwa [if_neg hjm] at this
                have e3' := Lib.hid e3
                have hjm' := Lib.hid hjm
                clear hjm e3
                go_wp2_with fail
                refine (f44_even _ hj2 hj100).mono ?_; rintro e w6 ⟨rfl, hb6⟩
                have hb6' := Lib.hid (below_then hb5.out hb6)
                obtain ⟨kk, hl⟩ := hload.out w6 hb6'.out j hjk
                rw [if_pos hj2, htr'.out, hap.out, e3'.out] at hl
                have hl' := Lib.hid hl
                clear hl hb6
                go_wp2_with fail
                refine hl'.out.mono ?_; rintro e w7 ⟨rfl, hb7⟩
                have hb8 : Hid (∀ ob, Below w4.heap.size w4 (w7.alloc ob)) := Lib.hid fun ob => below_then hb6'.out (below_then hb7 (Below.one ob))
                clear hb7
                go_wp2_with fail
                go_roundw
                case rel => exact ⟨j + 1, by omega, by go_num, Lib.hid (hb8.out _)⟩
                case measure => simp [intOf]; omega
            · have e1 : ((j : Int) % 2) = 1 := by omega
              by_cases hjm : j = m
              · have e2 : ((j : Int) == (m : Int)) = true := by simp [hjm]
                have htr : Hid (apartTrap m j = 0) := Lib.hid (by simp [apartTrap, hjm])
                have e3' : Hid (ap = x) := Lib.hid (by rw [← hap.out]; simp [apartNum, hjm])
                clear hjm
                go_wp2_with fail
                refine (f44_odd _ hj2 hj100).mono ?_; rintro e w6 ⟨rfl, hb6⟩
                have hb6' := Lib.hid (below_then hb5.out hb6)
                obtain ⟨kk, hl⟩ := hload.out w6 hb6'.out j hjk
                rw [if_neg (by omega), htr.out, hap.out, e3'.out] at hl
                have hl' := Lib.hid hl
                clear hl hb6
                go_wp2_with fail
                refine hl'.out.mono ?_; rintro e w7 ⟨rfl, hb7⟩
                have hb8 : Hid (∀ ob, Below w4.heap.size w4 (w7.alloc ob)) := Lib.hid fun ob => below_then hb6'.out (below_then hb7 (Below.one ob))
                clear hb7
                go_wp2_with fail
                go_roundw
                case rel => exact ⟨j + 1, by omega, by go_num, Lib.hid (hb8.out _)⟩
                case measure => simp [intOf]; omega
              · have e2 : ((j : Int) == (m : Int)) = false := by simp; omega
                have htr : Hid (apartTrap m j = 1) := Lib.hid (by simp [apartTrap, hjm, hj2])
                clear hjm
                go_wp2_with fail
                refine (f44_odd _ hj2 hj100).mono ?_; rintro e w6 ⟨rfl, hb6⟩
                have hb6' := Lib.hid (below_then hb5.out hb6)
                obtain ⟨kk, hl⟩ := hload.out w6 hb6'.out j hjk
                rw [if_neg (by omega), htr.out, hap.out] at hl
                have hl' := Lib.hid hl
                clear hl hb6
                go_wp2_with fail
                refine hl'.out.mono ?_; rintro e w7 ⟨rfl, hb7⟩
                have hb8 : Hid (∀ ob, Below w4.heap.size w4 (w7.alloc ob)) := Lib.hid fun ob => below_then hb6'.out (below_then hb7 (Below.one ob))
                clear hb7
                go_wp2_with fail
                go_roundw
                case rel => exact ⟨j + 1, by omega, by go_num, Lib.hid (hb8.out _)⟩
                case measure => simp [intOf]; omega
          · have : j = k := by omega
            subst this
            go_wp2_with fail
            go_ret
            exact ⟨rfl, below_then hb1'.out (below_then hB4.out hb5.out)⟩
theorem regionApart_walk (a0 a1 a2 : Int) (w0 : (Lit.int .i64 a0).wf = true) (w1 : (Lit.int .i64 a1).wf = true) (w2 : (Lit.int .u64 a2).wf = true) (w : World) :
    Calls Try.prog 9 #[.int .i64 a0, .int .i64 a1, .int .u64 a2] w fun e w' => e = .returned (.bool true) ∧ Below w.heap.size w w' := by
  have h := bounds_u64 w2
  obtain ⟨x, rfl⟩ : ∃ x : Nat, a2 = x := ⟨a2.toNat, by omega⟩
  exact apart a0 a1 x (by omega) w
end Go.Proofs.Ytmjeloinibembaa
