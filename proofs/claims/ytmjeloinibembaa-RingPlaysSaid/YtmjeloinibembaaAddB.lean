/-
  THE WALKS of package region: a region added, and where the memory's list lies then.
-/
import Derived.Test.YtmjeloinibembaaRow
namespace Go.Proofs.Ytmjeloinibembaa
open Go.RowKit
set_option linter.unusedVariables false
set_option linter.unusedSimpArgs false
theorem row_of_own {w : World} {B e : Nat} {v : Value} {xs : List Value} (h : w.ownsRow B e 1 v xs.length xs) : RowAt B e w v xs := by

  rcases h.2 with ⟨rfl, h0⟩ | ⟨g, cap, cur, rfl, hb, hg, hnc, hm, hs, ht⟩
  · exact .inl ⟨rfl, List.eq_nil_of_length_eq_zero h0⟩
  · refine .inr ⟨g, 0, cap, rfl, hb, ⟨cur, _, hg⟩, fun j => h.frozenAt j, fun j u hu => ?_, fun j hj => ?_, hnc, hm⟩
    · have hj := (List.getElem?_eq_some_iff.1 hu).1
      rw [Nat.zero_add, h.cellAt j (by simpa using hj)]; exact hu
    · have hj' : j < cur.size := by omega
      simp [World.cell?, hg, hj']
theorem append90b {B : Nat} {w : World} {v : Value} {l : List (Bool × Nat)} (h : w.ownsRow B 90 1 v l.length (l.map areaV)) (hB : B ≤ w.heap.size) (hl : l.length < 2 ^ 30) (x : Bool × Nat) :
    ∃ v' w', (Builtin.append_ #[81, 81] 81 #[v, .slice (some ⟨w.heap.size, 0, none⟩) 1 1]).run Try.prog (w.alloc (.cells #[areaV x] 90)) = .ok v' w' ∧ w'.ownsRow B 90 1 v' (l ++ [x]).length ((l ++ [x]).map areaV) ∧ (w.alloc (.cells #[areaV x] 90)).grownBy w' v.ownBlock ∧ (v'.ownBlock = v.ownBlock ∨ ∃ k, v'.ownBlock = some k ∧ w.heap.size ≤ k) := by
  obtain ⟨v', w', h1, h2, h3⟩ := append90 h hB hl x
  have hr : RowAt B 90 (w.alloc (.cells #[areaV x] 90)) v (l.map areaV) := row_of_own (by rw [List.length_map]; exact h.alloc _)
  obtain ⟨v2, w2, k1, _, _, k4⟩ := hr.append (t := 81) (by simp; omega) Try.t90 .nilIface 16 Try.underlying81 info90 zero90 size90 bytes90 rfl (by decide) (by simp; omega) (areaV x) (by unfold areaV; split <;> rfl) (nb := w.heap.size) (by rw [World.cell?_alloc_at _ _ _ _ rfl]; rfl) (fun he => by have := (h.lt _ he).2; omega)
  have k1 := k1 81
  rw [h1] at k1
  injection k1 with e1 e2
  subst e1
  exact ⟨_, _, h1, h2, h3, k4.imp id fun ⟨k, a, b⟩ => ⟨k, a, by simp at b; omega⟩⟩

set_option maxRecDepth 100000 in
set_option maxHeartbeats 2000000 in
theorem f43b_ok (B : Nat) (w : World) {mb : Nat} {v : Value} {l : List (Bool × Nat)} (hm : Hid (MemRow B w mb v l)) (hl : Hid (l.length + 1 < 2 ^ 30)) (hB : Hid (B ≤ w.heap.size)) {sb so n c : Nat} {f : Nat → Nat} (hb : Hid (Bts w sb so n f)) (hn : Hid (n < 2 ^ 40)) (hf : Hid (∀ i, i < n → f i < 256)) (wr : Bool) :
    Calls Try.prog 43 #[.pointer (some ⟨mb, 0, none⟩), .slice (some ⟨sb, so, none⟩) n c, .bool wr, .int .i64 0] w fun e w' => ∃ rb bb v', (v'.ownBlock = v.ownBlock ∨ ∃ k, v'.ownBlock = some k ∧ w.heap.size ≤ k) ∧ e = .returned (.int .i64 ((l.length + 1 : Nat) : Int)) ∧ MemRow B w' mb v' (l ++ [(false, rb)]) ∧ RegAt w' rb bb false wr n f ∧ w.heap.size ≤ rb ∧ w.heap.size ≤ bb ∧ Only (fun k => k = mb ∨ v.ownBlock = some k) w w' := by
  have h1 := hm.out.all
  go_enter Try.func43, Try.ntmps43
  go_wp2_with fail
  refine Reg.start (S := (fun w' => w'.cell? ⟨mb, 0, none⟩ = some v)) (B := (fun j => [20].contains j)) (by kernel_rfl) ?_
  refine Reg.take0 (i := 0) (v := ?_) rfl (by kernel_rfl) (by kernel_rfl) (by kernel_rfl) (by kernel_rfl) (fun _ _ _ h => h) (Or.inl ⟨by rfl, ?_⟩) ?_
  rotate_left
  · (intro w _; go_simp; try with_reducible rfl)
  try simp only [Act.put, List.setIfInBounds_toArray, List.set_cons_zero, List.set_cons_succ]
  refine Reg.take0 (i := 1) (v := ?_) rfl (by kernel_rfl) (by kernel_rfl) (by kernel_rfl) (by kernel_rfl) (fun _ _ _ h => h) (Or.inl ⟨by rfl, ?_⟩) ?_
  rotate_left
  · (intro w _; go_simp; try with_reducible rfl)
  try simp only [Act.put, List.setIfInBounds_toArray, List.set_cons_zero, List.set_cons_succ]
  refine Reg.take0 (i := 2) (v := ?_) rfl (by kernel_rfl) (by kernel_rfl) (by kernel_rfl) (by kernel_rfl) (fun _ _ _ h => h) (Or.inl ⟨by rfl, ?_⟩) ?_
  rotate_left
  · (intro w _; go_simp; try with_reducible rfl)
  try simp only [Act.put, List.setIfInBounds_toArray, List.set_cons_zero, List.set_cons_succ]
  refine Reg.take0 (i := 3) (v := ?_) rfl (by kernel_rfl) (by kernel_rfl) (by kernel_rfl) (by kernel_rfl) (fun _ _ _ h => h) (Or.inl ⟨by rfl, ?_⟩) ?_
  rotate_left
  · (intro w _; go_simp; try with_reducible rfl)
  try simp only [Act.put, List.setIfInBounds_toArray, List.set_cons_zero, List.set_cons_succ]
  refine Reg.take1 (i := 4) (v := ?_) rfl (by kernel_rfl) (by kernel_rfl) (by kernel_rfl) (by kernel_rfl) (by kernel_rfl) (fun _ _ _ h => h) (Or.inl ⟨by rfl, ?_⟩) (kp0 h1) ?_
  rotate_left
  · (intro w hS; have hs1 := hS; go_simp; try with_reducible rfl)
  try simp only [Act.put, List.setIfInBounds_toArray, List.set_cons_zero, List.set_cons_succ]
  refine Reg.take0 (i := 5) (v := ?_) rfl (by kernel_rfl) (by kernel_rfl) (by kernel_rfl) (by kernel_rfl) (fun _ _ _ h => h) (Or.inl ⟨by rfl, ?_⟩) ?_
  rotate_left
  · (intro w _; go_simp; try with_reducible rfl)
  try simp only [Act.put, List.setIfInBounds_toArray, List.set_cons_zero, List.set_cons_succ]
  refine Reg.take0 (i := 7) (v := ?_) rfl (by kernel_rfl) (by kernel_rfl) (by kernel_rfl) (by kernel_rfl) (fun _ _ _ h => h) (Or.inl ⟨by rfl, ?_⟩) ?_
  rotate_left
  · (intro w _; go_simp; try with_reducible rfl)
  try simp only [Act.put, List.setIfInBounds_toArray, List.set_cons_zero, List.set_cons_succ]
  refine Reg.take0 (i := 8) (v := ?_) rfl (by kernel_rfl) (by kernel_rfl) (by kernel_rfl) (by kernel_rfl) (fun _ _ _ h => h) (Or.inl ⟨by rfl, ?_⟩) ?_
  rotate_left
  · (intro w _; go_simp; try with_reducible rfl)
  try simp only [Act.put, List.setIfInBounds_toArray, List.set_cons_zero, List.set_cons_succ]
  refine Reg.take0 (i := 9) (v := ?_) rfl (by kernel_rfl) (by kernel_rfl) (by kernel_rfl) (by kernel_rfl) (fun _ _ _ h => h) (Or.inl ⟨by rfl, ?_⟩) ?_
  rotate_left
  · (intro w _; go_simp; try with_reducible rfl)
  try simp only [Act.put, List.setIfInBounds_toArray, List.set_cons_zero, List.set_cons_succ]
  refine Reg.take0 (i := 10) (v := ?_) rfl (by kernel_rfl) (by kernel_rfl) (by kernel_rfl) (by kernel_rfl) (fun _ _ _ h => h) (Or.inl ⟨by rfl, ?_⟩) ?_
  rotate_left
  · (intro w _; go_simp; try with_reducible rfl)
  try simp only [Act.put, List.setIfInBounds_toArray, List.set_cons_zero, List.set_cons_succ]
  refine Reg.take0 (i := 11) (v := ?_) rfl (by kernel_rfl) (by kernel_rfl) (by kernel_rfl) (by kernel_rfl) (fun _ _ _ h => h) (Or.inl ⟨by rfl, ?_⟩) ?_
  rotate_left
  · (intro w _; go_simp; try with_reducible rfl)
  try simp only [Act.put, List.setIfInBounds_toArray, List.set_cons_zero, List.set_cons_succ]
  refine Reg.take0 (i := 12) (v := .int .i64 0) rfl (by kernel_rfl) (by kernel_rfl) (by kernel_rfl) (by kernel_rfl) (fun _ _ _ h => h) (Or.inl ⟨by rfl, ?_⟩) ?_
  · (intro w _; go_simp; try omega; try with_reducible rfl)
  try simp only [Act.put, List.setIfInBounds_toArray, List.set_cons_zero, List.set_cons_succ]
  refine Reg.only (i := 6) (by kernel_rfl) rfl (fun K hK => ?_)
  go_simp
  refine (f59_ok (w.drew) (sb := sb) (so := so) (n := n) (c := c) (f := f) hb.out hn.out).mono ?_; rintro e w1 ⟨g, c', rfl, ho1, hb1⟩
  simp only []
  refine hK _ _ (fun _ hS => by rw [hb1.cell (World.block_lt_of_cell? _ _ hS)]; exact hS) ?_
  clear hK K
  try simp only [Act.put, List.setIfInBounds_toArray, List.set_cons_zero, List.set_cons_succ]
  refine Reg.take0 (i := 13) (v := ?_) rfl (by kernel_rfl) (by kernel_rfl) (by kernel_rfl) (by kernel_rfl) (fun _ _ _ h => h) (Or.inl ⟨by rfl, ?_⟩) ?_
  rotate_left
  · (intro w _; go_simp; try with_reducible rfl)
  try simp only [Act.put, List.setIfInBounds_toArray, List.set_cons_zero, List.set_cons_succ]
  refine Reg.only (i := 14) (by kernel_rfl) rfl (fun K hK => ?_)
  go_simp
  refine hK _ _ (fun _ h => kpa h) ?_
  clear hK K
  try simp only [Act.put, List.setIfInBounds_toArray, List.set_cons_zero, List.set_cons_succ]
  refine Reg.take0 (i := 15) (v := ?_) rfl (by kernel_rfl) (by kernel_rfl) (by kernel_rfl) (by kernel_rfl) (fun _ _ _ h => h) (Or.inl ⟨by rfl, ?_⟩) ?_
  rotate_left
  · (intro w _; go_simp; try with_reducible rfl)
  try simp only [Act.put, List.setIfInBounds_toArray, List.set_cons_zero, List.set_cons_succ]
  refine Reg.only (i := 16) (by kernel_rfl) rfl (fun K hK => ?_)
  go_simp
  refine hK _ _ (fun _ h => kpa h) ?_
  clear hK K
  try simp only [Act.put, List.setIfInBounds_toArray, List.set_cons_zero, List.set_cons_succ]
  have hd1 : Below w.heap.size w w1 := (Below.refl _ _).drew.trans hb1
  have hoB : (w1.alloc (.cells #[.bool false, .slice (some ⟨g, 0, none⟩) n c', .bool wr, .int .i64 0] 95)).ownsRow B 90 1 v l.length (l.map areaV) := (ownsRow_only hm.out.own (Only.of_below (S := fun _ => False) hd1) (fun _ _ h => h)).alloc _
  obtain ⟨v', w3, hap, ho3, hg3, hown3⟩ := append90b hoB (by have := hd1.size; have := hB.out; simp; omega) (by have := hl.out; omega) (false, w1.heap.size)
  simp only [World.size_alloc, area_r] at hap
  have hown4 : v'.ownBlock = v.ownBlock ∨ ∃ k, v'.ownBlock = some k ∧ w.heap.size ≤ k := hown3.imp id fun ⟨k, h1, h2⟩ => ⟨k, h1, by have := hd1.size; simp at h2; omega⟩
  obtain ⟨g2, c2, rfl, hgB, hgl, hgc⟩ := own_slice ho3 (own_ne ho3 (by simp))
  have hkm1 : KindAt w1 mb 83 := hm.out.kind.below hd1
  have hkv1 : ∀ k, v.ownBlock = some k → KindAt w1 k 90 := fun k hk => (own_kind hm.out.own hk).1.below hd1
  have hkg1 : KindAt w1 g 5 := (own_kind ho1 rfl).1
  have hgB1 : w.heap.size ≤ g := (own_kind ho1 rfl).2
  have hnm : some mb ≠ v.ownBlock := fun he => absurd ((hkv1 mb he.symm).inj hkm1) (by decide)
  have O1 : Only (fun k => k = mb ∨ v.ownBlock = some k) w ((w1.alloc (.cells #[.bool false, .slice (some ⟨g, 0, none⟩) n c', .bool wr, .int .i64 0] 95)).alloc (.cells #[areaV (false, w1.heap.size)] 90)) := ((Only.of_below hd1).alloc _).alloc _
  have O3 := O1.grown hg3 (fun k hk => ⟨fun _ => .inr hk, .inr ⟨90, by decide, ((hkv1 k hk).alloc _).alloc _⟩⟩)
  have R1 : Only (fun k => k = mb ∨ v.ownBlock = some k) (w1.alloc (.cells #[.bool false, .slice (some ⟨g, 0, none⟩) n c', .bool wr, .int .i64 0] 95)) ((w1.alloc (.cells #[.bool false, .slice (some ⟨g, 0, none⟩) n c', .bool wr, .int .i64 0] 95)).alloc (.cells #[areaV (false, w1.heap.size)] 90)) := (Only.refl _ _).alloc _
  have R3 := R1.grown hg3 (fun k hk => ⟨fun _ => .inr hk, .inr ⟨90, by decide, ((hkv1 k hk).alloc _).alloc _⟩⟩)
  have c1 : w1.cell? ⟨mb, 0, none⟩ = some v := by rw [hd1.cell hm.out.kind.lt]; exact hm.out.all
  have c3 : w3.cell? ⟨mb, 0, none⟩ = some v := hg3.cell (kpa (kpa c1)) hnm
  have z3 : w3.frozen? ⟨mb, 0, none⟩ = false := by
    have h1 := World.frozen?_of_block (a := ⟨mb, 0, none⟩) (hg3.block mb ((hkm1.alloc _).alloc _).lt hnm)
    rw [h1, World.frozen?_alloc_old _ _ _ (by have := hkm1.lt; simp; omega), World.frozen?_alloc_old _ _ _ (by have := hkm1.lt; exact Nat.ne_of_lt this), hd1.frozen hm.out.kind.lt]
    exact hm.out.thaw 0
  have REG : RegAt (w1.alloc (.cells #[.bool false, .slice (some ⟨g, 0, none⟩) n c', .bool wr, .int .i64 0] 95)) w1.heap.size g false wr n f := by
    have hlt := hkg1.lt
    refine ⟨?_, ⟨c', (own_cap ho1), ?_⟩, ?_, ?_, fun i hi => ?_, Thaw.new _ _ _, fun j => ?_, hf.out, by simp; omega, by omega, KindAt.new _ _ _, hkg1.alloc _, hn.out⟩
    · rw [World.cell?_alloc_at _ _ _ _ rfl]; rfl
    · rw [World.cell?_alloc_at _ _ _ _ rfl]; rfl
    · rw [World.cell?_alloc_at _ _ _ _ rfl]; rfl
    · rw [World.cell?_alloc_at _ _ _ _ rfl]; rfl
    · exact kpa (bts_of_own ho1 i hi)
    · rw [World.frozen?_alloc_old _ _ _ (Nat.ne_of_lt hlt)]; exact ho1.frozenAt j
  refine Reg.only (i := 17) (by kernel_rfl) rfl (fun K hK => ?_)
  rw [if_pos (by rfl)]
  refine wp_append_run (.tmp 13) (.tmp 25) 81 rfl _ _ _ rfl rfl hap ?_
  refine hK _ _ (fun _ hS => ?_) ?_
  · exact hg3.cell hS hnm
  clear hK K
  try simp only [Act.put, List.setIfInBounds_toArray, List.set_cons_zero, List.set_cons_succ]
  refine Reg.only (i := 18) (by kernel_rfl) rfl (fun K hK => ?_)
  go_simp
  refine hK _ _ (fun _ h => h) ?_
  clear hK K
  try simp only [Act.put, List.setIfInBounds_toArray, List.set_cons_zero, List.set_cons_succ]
  refine Reg.only (i := 19) (by kernel_rfl) rfl (fun K hK => ?_)
  go_simp
  refine hK _ _ (fun _ h => h) ?_
  clear hK K
  try simp only [Act.put, List.setIfInBounds_toArray, List.set_cons_zero, List.set_cons_succ]
  refine Reg.only (i := 20) (by kernel_rfl) rfl (fun K hK => ?_)
  go_simp
  refine hK _ _ (fun hb => absurd hb (by decide)) ?_
  clear hK K
  try simp only [Act.put, List.setIfInBounds_toArray, List.set_cons_zero, List.set_cons_succ]
  refine Reg.done (by kernel_rfl) ?_ _
  have c4 := cell_same (.slice (some ⟨g2, 0, none⟩) (l ++ [(false, w1.heap.size)]).length c2) c3
  have O4 := O3.setCell (p := ⟨mb, 0, none⟩) (fun _ => .inl rfl) (.slice (some ⟨g2, 0, none⟩) (l ++ [(false, w1.heap.size)]).length c2)
  have R4 := R3.setCell (p := ⟨mb, 0, none⟩) (fun _ => .inl rfl) (.slice (some ⟨g2, 0, none⟩) (l ++ [(false, w1.heap.size)]).length c2)
  have M4 : MemRow B (w3.setCell ⟨mb, 0, none⟩ (.slice (some ⟨g2, 0, none⟩) (l ++ [(false, w1.heap.size)]).length c2)) mb (.slice (some ⟨g2, 0, none⟩) (l ++ [(false, w1.heap.size)]).length c2) (l ++ [(false, w1.heap.size)]) := by
    have hk4 := O4.kind _ _ (by decide) hm.out.kind
    refine ⟨c4, ownsRow_only ho3 ((Only.refl (· = mb) _).setCell (fun _ => rfl) _) (fun k hk he => ?_), fun j => ?_, hk4, hm.out.ge, by have := hl.out; simp; omega⟩
    · subst he
      exact absurd ((own_kind ho3 hk).1.inj (O3.kind _ _ (by decide) hm.out.kind)) (by decide)
    · rw [World.frozen?_setCell]
      have h1 := World.frozen?_of_block (a := ⟨mb, j, none⟩) (hg3.block mb ((hkm1.alloc _).alloc _).lt hnm)
      rw [h1, World.frozen?_alloc_old _ _ _ (by have := hkm1.lt; simp; omega), World.frozen?_alloc_old _ _ _ (by have := hkm1.lt; exact Nat.ne_of_lt this), hd1.frozen hm.out.kind.lt]
      exact hm.out.thaw j
  have R5 := REG.only R4 (fun hx => by
    rcases hx with hx | hx
    · exact absurd (REG.kR.inj (hx ▸ hkm1.alloc _)) (by decide)
    · exact absurd (REG.kR.inj ((hkv1 _ hx).alloc _)) (by decide)) (fun hx => by
    rcases hx with hx | hx
    · exact absurd (REG.kB.inj (hx ▸ hkm1.alloc _)) (by decide)
    · exact absurd (REG.kB.inj ((hkv1 _ hx).alloc _)) (by decide))
  have hfin := Lib.hid (⟨_, _, _, hown4, M4, R5, hd1.size, hgB1, O4⟩ : ∃ rb bb v', (v'.ownBlock = v.ownBlock ∨ ∃ k, v'.ownBlock = some k ∧ w.heap.size ≤ k) ∧ MemRow B _ mb v' (l ++ [(false, rb)]) ∧ RegAt _ rb bb false wr n f ∧ w.heap.size ≤ rb ∧ w.heap.size ≤ bb ∧ Only (fun k => k = mb ∨ v.ownBlock = some k) w _)
  clear M4 R5 O4 R4 O3 R3 O1 R1 hap ho3 hg3 REG c3 z3 c1 hoB ho1 hkm1 hkv1 hkg1 hd1 hb1
  simp only [List.length_append, List.length_cons, List.length_nil, Nat.zero_add] at c4 hfin ⊢
  go_wp2_with fail
  go_ret
  obtain ⟨rb, bb, v', hown, hfin⟩ := hfin.out
  exact ⟨rb, bb, v', hown, rfl, hfin⟩
end Go.Proofs.Ytmjeloinibembaa
