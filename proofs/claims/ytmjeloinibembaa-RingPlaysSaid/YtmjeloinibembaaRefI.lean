/-
  RingPlays: few, Spoil, Ints; the ring and the document's ring beside one another.
-/
import Derived.Test.YtmjeloinibembaaRefH
import Derived.Test.YtmjeloinibembaaStB
namespace Go.Proofs.Ytmjeloinibembaa
open Go.RowKit
set_option linter.unusedVariables false
set_option linter.unusedSimpArgs false
set_option maxRecDepth 100000 in
set_option maxHeartbeats 2000000 in
theorem f35_ok (w : World) {Ba Bb : Nat} {aa ab : Option Addr} {n ca cb : Nat} {xs : List Int} (ha : Hid (RowAt Ba 3 w (.slice aa n ca) (xs.map (Value.int .i64)))) (hb : Hid (RowAt Bb 3 w (.slice ab n cb) (xs.map (Value.int .i64)))) (hn : Hid (xs.length = n ∧ n < 2 ^ 40)) :
    Calls Try.prog 35 #[.slice aa n ca, .slice ab n cb] w fun e w' => e = .returned (.bool true) ∧ Below w.heap.size w w' := by
  have hn40 := Lib.hid hn.out.2
  go_enter Try.func35, Try.ntmps35
  go_wp2_with fail
  go_loopg [5] n (fun g i wr => ∃ k : Nat, Hid (g = n - k) ∧ k ≤ n ∧ i = .int .i64 k ∧ Hid (Below w.heap.size w wr))
  case atStart => exact ⟨0, Lib.hid rfl, Nat.zero_le _, rfl, Lib.hid (Below.refl _ _)⟩
  case round =>
    obtain ⟨k, hg, hk, rfl, hB⟩ := hrel
    by_cases hlt : k < n
    · have hlt' : (k : Int) < (n : Int) := by omega
      have hxa : k < xs.length := by rw [hn.out.1]; exact hlt
      obtain ⟨z, hz⟩ : ∃ z, (xs.map (Value.int .i64))[k]? = some (.int .i64 z) := ⟨xs[k], by rw [List.getElem?_map, List.getElem?_eq_getElem hxa]; rfl⟩
      obtain ⟨ga, oa, rfl, -, a0⟩ := ha.out.at' hz
      obtain ⟨gb, ob, rfl, -, b0⟩ := hb.out.at' hz
      have hf : Hid (∀ w' : World, (∀ q v, w.cell? q = some v → w'.cell? q = some v) → w'.cell? ⟨ga, oa + k, none⟩ = some (.int .i64 z) ∧ w'.cell? ⟨gb, ob + k, none⟩ = some (.int .i64 z)) := Lib.hid fun w' hw => ⟨hw _ _ a0, hw _ _ b0⟩
      clear a0 b0 hz hxa
      go_wp2_with fail
      refine Reg.start (S := (fun w' => w'.cell? ⟨ga, oa + k, none⟩ = some (.int .i64 z) ∧ w'.cell? ⟨gb, ob + k, none⟩ = some (.int .i64 z))) (B := (fun _ => false)) (by kernel_rfl) ?_
      have hfd := hf.out wr.drew fun q v h => (hB.out.cell (World.block_lt_of_cell? _ _ h)).trans h
      have hBd : Hid (Below w.heap.size w wr.drew) := Lib.hid hB.out.drew
      revert hfd hBd
      generalize wr.drew = w1
      intro hfd hBd
      refine Reg.take0 (i := 0) (v := ?_) rfl (by kernel_rfl) (by kernel_rfl) (by kernel_rfl) (by kernel_rfl) (fun _ _ _ h => h) (Or.inl ⟨by rfl, ?_⟩) ?_
      rotate_left
      · (intro w _; go_simp; try with_reducible rfl)
      try simp only [Act.put, List.getElem_toArray, List.getElem_cons_succ, List.getElem_cons_zero, List.setIfInBounds_toArray, List.set_cons_zero, List.set_cons_succ]
      refine Reg.take0 (i := 1) (v := ?_) rfl (by kernel_rfl) (by kernel_rfl) (by kernel_rfl) (by kernel_rfl) (fun _ _ _ h => h) (Or.inl ⟨by rfl, ?_⟩) ?_
      rotate_left
      · (intro w _; go_simp; try with_reducible rfl)
      try simp only [Act.put, List.getElem_toArray, List.getElem_cons_succ, List.getElem_cons_zero, List.setIfInBounds_toArray, List.set_cons_zero, List.set_cons_succ]
      refine Reg.take0 (i := 2) (v := ?_) rfl (by kernel_rfl) (by kernel_rfl) (by kernel_rfl) (by kernel_rfl) (fun _ _ _ h => h) (Or.inl ⟨by rfl, ?_⟩) ?_
      rotate_left
      · (intro w _; go_simp; try with_reducible rfl)
      try simp only [Act.put, List.getElem_toArray, List.getElem_cons_succ, List.getElem_cons_zero, List.setIfInBounds_toArray, List.set_cons_zero, List.set_cons_succ]
      refine Reg.take1 (i := 3) (v := ?_) rfl (by kernel_rfl) (by kernel_rfl) (by kernel_rfl) (by kernel_rfl) (by kernel_rfl) (fun _ _ _ h => h) (Or.inl ⟨by rfl, ?_⟩) hfd ?_
      rotate_left
      · (intro w hS; obtain ⟨hs1, hs2⟩ := hS; go_simp; try with_reducible rfl)
      try simp only [Act.put, List.getElem_toArray, List.getElem_cons_succ, List.getElem_cons_zero, List.setIfInBounds_toArray, List.set_cons_zero, List.set_cons_succ]
      refine Reg.take0 (i := 4) (v := ?_) rfl (by kernel_rfl) (by kernel_rfl) (by kernel_rfl) (by kernel_rfl) (fun _ _ _ h => h) (Or.inl ⟨by rfl, ?_⟩) ?_
      rotate_left
      · (intro w _; go_simp; try with_reducible rfl)
      try simp only [Act.put, List.getElem_toArray, List.getElem_cons_succ, List.getElem_cons_zero, List.setIfInBounds_toArray, List.set_cons_zero, List.set_cons_succ]
      refine Reg.take0 (i := 5) (v := ?_) rfl (by kernel_rfl) (by kernel_rfl) (by kernel_rfl) (by kernel_rfl) (fun _ _ _ h => h) (Or.inl ⟨by rfl, ?_⟩) ?_
      rotate_left
      · (intro w _; go_simp; try with_reducible rfl)
      try simp only [Act.put, List.getElem_toArray, List.getElem_cons_succ, List.getElem_cons_zero, List.setIfInBounds_toArray, List.set_cons_zero, List.set_cons_succ]
      refine Reg.take0 (i := 6) (v := ?_) rfl (by kernel_rfl) (by kernel_rfl) (by kernel_rfl) (by kernel_rfl) (fun _ _ _ h => h) (Or.inl ⟨by rfl, ?_⟩) ?_
      rotate_left
      · (intro w _; go_simp; try with_reducible rfl)
      try simp only [Act.put, List.getElem_toArray, List.getElem_cons_succ, List.getElem_cons_zero, List.setIfInBounds_toArray, List.set_cons_zero, List.set_cons_succ]
      refine Reg.take1 (i := 7) (v := ?_) rfl (by kernel_rfl) (by kernel_rfl) (by kernel_rfl) (by kernel_rfl) (by kernel_rfl) (fun _ _ _ h => h) (Or.inl ⟨by rfl, ?_⟩) hfd ?_
      rotate_left
      · (intro w hS; obtain ⟨hs1, hs2⟩ := hS; go_simp; try with_reducible rfl)
      try simp only [Act.put, List.getElem_toArray, List.getElem_cons_succ, List.getElem_cons_zero, List.setIfInBounds_toArray, List.set_cons_zero, List.set_cons_succ]
      refine Reg.take0 (i := 8) (v := ?_) rfl (by kernel_rfl) (by kernel_rfl) (by kernel_rfl) (by kernel_rfl) (fun _ _ _ h => h) (Or.inl ⟨by rfl, ?_⟩) ?_
      rotate_left
      · (intro w _; go_simp; try with_reducible rfl)
      try simp only [Act.put, List.getElem_toArray, List.getElem_cons_succ, List.getElem_cons_zero, List.setIfInBounds_toArray, List.set_cons_zero, List.set_cons_succ]
      refine Reg.done (by kernel_rfl) ?_ _
      have hn40' := hn40.out
      go_wp2_with fail
      go_roundg (n - (k + 1))
      case measure => rw [hg.out]; omega
      case rel => exact ⟨k + 1, Lib.hid rfl, hlt, by go_num, hBd⟩
    · have : k = n := by omega
      subst this
      go_wp2_with fail
      go_ret
      exact ⟨rfl, hB.out⟩
set_option maxRecDepth 100000 in
set_option maxHeartbeats 1000000 in
theorem f31_zero (w : World) {a : Option Addr} {c : Nat} : Calls Try.prog 31 #[.slice a 0 c] w fun e w' => e = .returned (.tuple #[]) ∧ w = w' := by
  go_enter Try.func31, Try.ntmps31
  go_wp2_with fail
  go_loopg [2] 0 (fun g i wr => i = .int .i64 0 ∧ Hid (wr = w))
  case atStart => exact ⟨rfl, Lib.hid rfl⟩
  case round =>
    obtain ⟨rfl, hw⟩ := hrel
    obtain rfl := hw.out
    go_wp2_with fail
    go_returns
    exact ⟨rfl, rfl⟩
set_option maxRecDepth 100000 in
set_option maxHeartbeats 1000000 in
theorem f31_ok (w : World) {b o n c : Nat} {g : Nat → Nat} (hb : Hid (Bts w b o n g)) (ht : Hid (Thaw w b)) (hn : Hid (n < 2 ^ 40)) : Calls Try.prog 31 #[.slice (some ⟨b, o, none⟩) n c] w fun e w' => e = .returned (.tuple #[]) ∧ Only (· = b) w w' := by
  have hn40 := hn.out
  go_enter Try.func31, Try.ntmps31
  go_wp2_with fail
  go_loopg [2] n (fun g' i wr => ∃ k : Nat, Hid (g' = n - k) ∧ k ≤ n ∧ i = .int .i64 k ∧ Hid (Only (· = b) w wr) ∧ Hid (Thaw wr b) ∧ Hid (∀ j, j < n → ∃ v : Int, wr.cell? ⟨b, o + j, none⟩ = some (.int .u8 v)))
  case atStart => exact ⟨0, Lib.hid rfl, Nat.zero_le _, rfl, Lib.hid (Only.refl _ _), ht, Lib.hid fun j hj => ⟨_, hb.out j hj⟩⟩
  case round =>
    obtain ⟨k, hg, hk, rfl, hO, hT, hC⟩ := hrel
    by_cases hlt : k < n
    · have hlt' : (k : Int) < (n : Int) := by omega
      obtain ⟨v, hc⟩ := hC.out k hlt
      have hz := hT.out (o + k)
      have hO2 : Hid (∀ u, Only (· = b) w (wr.setCell ⟨b, o + k, none⟩ u)) := Lib.hid fun u => Only.setCell (S := (· = b)) hO.out (fun _ => rfl) u
      have hT2 : Hid (∀ u, Thaw (wr.setCell ⟨b, o + k, none⟩ u) b) := Lib.hid fun u => hT.out.setCell _ _
      have hC2 : Hid (∀ z : Int, ∀ j, j < n → ∃ v : Int, (wr.setCell ⟨b, o + k, none⟩ (.int .u8 z)).cell? ⟨b, o + j, none⟩ = some (.int .u8 v)) := Lib.hid fun z j hj => by
        by_cases hjk : j = k
        · subst hjk; exact ⟨z, cell_same _ hc⟩
        · obtain ⟨v, h⟩ := hC.out j hj
          exact ⟨v, (cell_ne _ (.inr (by omega))).trans h⟩
      go_wp2_with fail
      go_roundg (n - (k + 1))
      case measure => rw [hg.out]; omega
      case rel => exact ⟨k + 1, Lib.hid rfl, hlt, by go_num, Lib.hid (hO2.out _), Lib.hid (hT2.out _), Lib.hid (hC2.out _)⟩
    · have hkn : n = k := by omega
      subst hkn
      go_wp2_with fail
      go_returns
      exact ⟨rfl, hO.out⟩
/-- a step. -/
structure Stp where
  what : Int
  n : Int
  a : Option Addr
  m : Nat
  q : Nat
  l : List Nat
structure StepsAt (w : World) (a0 : Option Addr) (n : Nat) (ss : List Stp) : Prop where
  len : ss.length = n
  at' : n = 0 ∨ ∃ g o, a0 = some ⟨g, o, none⟩ ∧ ∀ (j : Nat) s, ss[j]? = some s → w.cell? ⟨g, o + j * 3, none⟩ = some (.int .i64 s.what) ∧ w.cell? ⟨g, o + j * 3 + 1, none⟩ = some (.int .i64 s.n) ∧ w.cell? ⟨g, o + j * 3 + 2, none⟩ = some (.slice s.a s.m s.q)
  sl : ∀ (j : Nat) s, ss[j]? = some s → s.l.length = s.m ∧ SlB w.heap.size (· < w.heap.size) w (.slice s.a s.m s.q) s.l
set_option maxRecDepth 100000 in
set_option maxHeartbeats 1000000 in
theorem f24_ok (w : World) {a0 : Option Addr} {n c0 : Nat} {ss : List Stp} (hs : Hid (StepsAt w a0 n ss)) (hn40 : Hid (n < 2 ^ 63)) : Calls Try.prog 24 #[.slice a0 n c0] w fun e w' => ∃ v : Value, e = .returned v ∧ w = w' ∧ (v = .bool false ∨ (v = .bool true ∧ n ≤ 60 ∧ ∀ (j : Nat) s, ss[j]? = some s → s.m ≤ 4500)) := by
  have hn40' := hn40.out
  go_enter Try.func24, Try.ntmps24
  go_wp2_with fail
  go_loopg [3] n (fun g i wr => ∃ k : Nat, Hid (g = n - k) ∧ k ≤ n ∧ i = .int .i64 k ∧ Hid (wr = w) ∧ Hid (∀ (j : Nat) s, j < k → ss[j]? = some s → s.m ≤ 4500))
  case atStart => exact ⟨0, Lib.hid rfl, Nat.zero_le _, rfl, Lib.hid rfl, Lib.hid fun j s h => absurd h (Nat.not_lt_zero _)⟩
  case round =>
    obtain ⟨k, hg, hk, rfl, hwr, hm⟩ := hrel
    obtain rfl := hwr.out
    by_cases hlt : k < n
    · have hlt' : (k : Int) < (n : Int) := by omega
      obtain ⟨s, hsk⟩ : ∃ s, ss[k]? = some s := ⟨_, List.getElem?_eq_getElem (by rw [hs.out.len]; exact hlt)⟩
      obtain ⟨g, o, rfl, hcell⟩ : ∃ g o, a0 = some ⟨g, o, none⟩ ∧ ∀ (j : Nat) s, ss[j]? = some s → wr.cell? ⟨g, o + j * 3, none⟩ = some (.int .i64 s.what) ∧ wr.cell? ⟨g, o + j * 3 + 1, none⟩ = some (.int .i64 s.n) ∧ wr.cell? ⟨g, o + j * 3 + 2, none⟩ = some (.slice s.a s.m s.q) := by
        rcases hs.out.at' with h | h
        · omega
        · exact h
      have x2 := (hcell k s hsk).2.2
      clear hcell
      by_cases h45 : 4500 < s.m
      · have h45' : (4500 : Int) < (s.m : Int) := by omega
        go_wp2_with fail
        go_ret
        exact ⟨_, rfl, rfl, .inl rfl⟩
      · have h45' : ¬ (4500 : Int) < (s.m : Int) := by omega
        have hm2 : Hid (∀ (j : Nat) s, j < k + 1 → ss[j]? = some s → s.m ≤ 4500) := Lib.hid fun j a hj ha => by
          by_cases hjk : j = k
          · subst hjk; rw [hsk] at ha; obtain rfl := Option.some.inj ha; omega
          · exact hm.out j a (by omega) ha
        clear hsk h45
        go_wp2_with fail
        go_roundg (n - (k + 1))
        case measure => rw [hg.out]; omega
        case rel => exact ⟨k + 1, Lib.hid rfl, hlt, by go_num, Lib.hid rfl, hm2⟩
    · have hkn : n = k := by omega
      subst hkn
      by_cases h60 : n ≤ 60
      · have h60' : (n : Int) ≤ 60 := by omega
        go_wp2_with fail
        go_ret
        exact ⟨_, rfl, rfl, .inr ⟨rfl, fun j s h => hm.out j s (by have := (List.getElem?_eq_some_iff.1 h).1; have := hs.out.len; omega) h⟩⟩
      · have h60' : ¬ (n : Int) ≤ 60 := by omega
        go_wp2_with fail
        go_ret
        first | exact ⟨_, rfl, rfl, .inl rfl⟩ | exact ⟨rfl, rfl⟩
end Go.Proofs.Ytmjeloinibembaa
