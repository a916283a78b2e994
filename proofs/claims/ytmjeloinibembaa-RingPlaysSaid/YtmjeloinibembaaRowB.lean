/-
  ROWS: zs many zs one likes are appended.
-/
import Derived.Test.YtmjeloinibembaaRow
namespace Go.Proofs.Ytmjeloinibembaa
open Go.RowKit
set_option linter.unusedVariables false
set_option linter.unusedSimpArgs false
theorem RowAt.appendAll {B e t : Nat} {w : World} {v : Value} {xs ys : List Value} (h : RowAt B e w v xs) (hB : B ≤ w.heap.size) (i : TypeInfo) (z : Value) (bytes : Nat) (ht : Try.prog.underlying t = some (.slice e)) (hi : Try.prog.info? e = some i) (hz : i.zero = some z)
    (hsize : i.size = 1) (hby : i.bytes = bytes) (hzs : z.cells.size = 1) (hb24 : bytes ≤ 24) (hl : xs.length + ys.length < 2 ^ 40) (hy1 : ∀ u ∈ ys, u.oneCell' = true) (h0 : 0 < ys.length) {nb no c : Nat} (hnews : ∀ j u, ys[j]? = some u → w.cell? ⟨nb, no + j, none⟩ = some u) :
    ∃ v' w', (∀ ty, (Builtin.append_ #[t, t] ty #[v, .slice (some ⟨nb, no, none⟩) ys.length c]).run Try.prog w = .ok v' w') ∧ RowAt B e w' v' (xs ++ ys) ∧ w.grownBy w' v.ownBlock ∧ (v'.ownBlock = v.ownBlock ∨ ∃ k, v'.ownBlock = some k ∧ w.heap.size ≤ k) := by
  have hnews : ∀ j u, ys[j]? = some u → w.cell? ((⟨nb, no, none⟩ : Addr).add j) = some u := fun j u hu => by rw [addr_add]; exact hnews j u hu
  have grown : ∀ (n old m : Nat) (zs : List Value) (row : Option Nat), zs.length = n → m = ys.length → n + m < 2 ^ 40 →
      RowAt B e (w.drew.alloc (.cells (zs.toArray ++ ys.toArray ++ Builtin.zeroCells z.cells (grownCap w (n + m) old e - (n + m))) e)) (.slice (some ⟨w.heap.size, 0, none⟩) (n + m) (grownCap w (n + m) old e)) (zs ++ ys) ∧
      w.grownBy (w.drew.alloc (.cells (zs.toArray ++ ys.toArray ++ Builtin.zeroCells z.cells (grownCap w (n + m) old e - (n + m))) e)) row := by
    intro n old m zs row hn hm hn40
    have hge := grownCap_ge w (n + m) old e
    have hcm : grownCap w (n + m) old e ≤ maxLen := grownCap_le_maxLen w (n + m) old e (by unfold maxLen; omega)
    refine ⟨.inr ⟨w.heap.size, 0, _, by simp [hn, hm], hB, KindAt.new _ _ _, fun j => ?_, fun j u hu => ?_, fun j hj => ?_, by simp [hn, ← hm]; exact hge, hcm⟩, ⟨rfl, rfl, rfl, by simp, fun k hk _ => Below.heap_alloc w.drew _ k hk⟩⟩
    · have := Thaw.new w.drew (zs.toArray ++ ys.toArray ++ Builtin.zeroCells z.cells (grownCap w (n + m) old e - (n + m))) e j
      exact this
    · rw [World.cell?_alloc_at (w := w.drew) _ _ w.heap.size _ rfl, Nat.zero_add]
      have hj : j < (zs ++ ys).length := (List.getElem?_eq_some_iff.1 hu).1
      rw [Array.getElem?_append_left (by simpa using hj)]
      simpa using hu
    · rw [World.cell?_alloc_at (w := w.drew) _ _ w.heap.size _ rfl, Nat.zero_add]
      have hs : (zs.toArray ++ ys.toArray ++ Builtin.zeroCells z.cells (grownCap w (n + m) old e - (n + m))).size = grownCap w (n + m) old e := by
        simp only [Array.size_append, List.size_toArray, size_zeroCells, hzs, hn, ← hm]; omega
      rw [Array.getElem?_eq_getElem (by omega)]; rfl
  rcases h with ⟨rfl, rfl⟩ | ⟨g, o, cap, rfl, hb, hk, hth, hc, hr, h1, h2⟩
  · have hr : ∀ ty, _ := fun ty => run_append_nil (P := Try.prog) w t ty e i z ht hi hz ⟨nb, no, none⟩ ys.length c ys (by rw [hsize, Nat.mul_one]) hnews h0 (by simp at hl; omega) (by rw [hby]; simp at hl; calc ys.length * bytes ≤ ys.length * 24 := Nat.mul_le_mul_left _ hb24
              _ ≤ _ := by omega)
    obtain ⟨g1, g2⟩ := grown 0 0 ys.length [] (Value.ownBlock (.slice none 0 0)) rfl rfl (by simp at hl; omega)
    simp only [Nat.zero_add, List.nil_append] at g1 g2 hr
    refine ⟨_, _, hr, ?_, ?_, .inr ⟨w.heap.size, rfl, Nat.le_refl _⟩⟩
    · simpa using g1
    · simpa using g2
  · by_cases hroom : xs.length + ys.length ≤ cap
    · have hst := run_storeCells_cells (P := Try.prog) g (o + xs.length) ys 0 w (fun j hj => by
          have := hr (xs.length + j) (by omega)
          rwa [show o + xs.length + 0 + j = o + (xs.length + j) by omega]) (fun j hj => hth _) hy1
      have hf := run_firstCells_some (P := Try.prog) w i.size ys.length ⟨nb, no, none⟩ ys.length c ys (by rw [hsize, Nat.mul_one]) hnews
      refine ⟨.slice (some ⟨g, o, none⟩) (xs.length + ys.length) cap, w.setCells g (o + xs.length) ys, fun ty => ?_, ?_, ?_, .inl rfl⟩
      · rw [Nat.add_zero] at hst
        rw [hsize] at hf
        simp [Builtin.append_, run_underlying ht, sizeOf, typeInfo, hi, Builtin.lenOf, hroom, hf, hsize, addr_add, hst]
      · have ho : Only (· = g) w (w.setCells g (o + xs.length) ys) := by
          have : ∀ (vs : List Value) (p : Nat) (u : World), Only (· = g) w u → Only (· = g) w (u.setCells g p vs) := fun vs => by
            induction vs with
            | nil => intro p u h; exact h
            | cons a l ih => intro p u h; exact ih (p + 1) _ (Only.setCell (S := (· = g)) h (fun _ => rfl) a)
          exact this ys _ w (Only.refl _ _)
        have hin : ∀ j (hj : j < ys.length), (w.setCells g (o + xs.length) ys).cell? ⟨g, o + xs.length + j, none⟩ = some ys[j] := World.cell?_setCells_in g ys (o + xs.length) w (fun j hj => by
          have := hr (xs.length + j) (by omega)
          rwa [show o + xs.length + j = o + (xs.length + j) by omega])
        have hout : ∀ j, j < xs.length → (w.setCells g (o + xs.length) ys).cell? ⟨g, o + j, none⟩ = w.cell? ⟨g, o + j, none⟩ := fun j hj => World.cell?_setCells_out g ys (o + xs.length) w _ (fun _ _ => .inl (by show o + j < o + xs.length; omega))
        have hout2 : ∀ j, xs.length + ys.length ≤ j → (w.setCells g (o + xs.length) ys).cell? ⟨g, o + j, none⟩ = w.cell? ⟨g, o + j, none⟩ := fun j hj => World.cell?_setCells_out g ys (o + xs.length) w _ (fun _ _ => .inr (by show o + xs.length + ys.length ≤ o + j; omega))
        have hkind : KindAt (w.setCells g (o + xs.length) ys) g e := by
          have : ∀ (vs : List Value) (p : Nat) (u : World), KindAt u g e → KindAt (u.setCells g p vs) g e := fun vs => by
            induction vs with
            | nil => intro p u h; exact h
            | cons a l ih => intro p u h; exact ih (p + 1) _ (h.setCell _ _)
          exact this ys _ w hk
        refine .inr ⟨g, o, cap, by simp, hb, hkind, fun j => by rw [World.frozen?_setCells]; exact hth j, fun j u hu => ?_, fun j hj => ?_, by simpa using hroom, h2⟩
        · by_cases hj : j < xs.length
          · rw [hout j hj]
            rw [List.getElem?_append_left hj] at hu
            exact hc j u hu
          · rw [List.getElem?_append_right (by omega)] at hu
            obtain ⟨h3, h4⟩ := List.getElem?_eq_some_iff.1 hu
            have := hin (j - xs.length) h3
            rw [show o + xs.length + (j - xs.length) = o + j by omega] at this
            rw [this, h4]
        · by_cases hj1 : j < xs.length
          · rw [hout j hj1]; exact hr j hj
          · by_cases hj2 : j < xs.length + ys.length
            · have := hin (j - xs.length) (by omega)
              rw [show o + xs.length + (j - xs.length) = o + j by omega] at this
              rw [this]; rfl
            · rw [hout2 j (by omega)]; exact hr j hj
      · have oc : ∀ (a : Value) (p : Nat) (u : World), Only (fun _ => True) u (u.setCell ⟨g, p, none⟩ a) := fun a p u => Only.setCell (S := fun _ => True) (Only.refl _ u) (fun _ => trivial) a
        have hblk : ∀ (vs : List Value) (p : Nat) (u : World), (∀ k, k < w.heap.size → k ≠ g → u.heap[k]? = w.heap[k]?) ∧ u.os = w.os ∧ u.tape = w.tape ∧ u.output = w.output ∧ u.heap.size = w.heap.size → (∀ k, k < w.heap.size → k ≠ g → (u.setCells g p vs).heap[k]? = w.heap[k]?) ∧ (u.setCells g p vs).os = w.os ∧ (u.setCells g p vs).tape = w.tape ∧ (u.setCells g p vs).output = w.output ∧ (u.setCells g p vs).heap.size = w.heap.size := fun vs => by
            induction vs with
            | nil => intro p u h; exact h
            | cons a l ih => intro p u h; exact ih (p + 1) _ ⟨fun k hk hne => (Below.heap_setCell _ _ _ _ (fun he => hne he)).trans (h.1 k hk hne), (oc a p u).os.trans h.2.1, (oc a p u).tape.trans h.2.2.1, (oc a p u).output.trans h.2.2.2.1, by simpa using h.2.2.2.2⟩
        obtain ⟨b1, b2, b3, b4, b5⟩ := hblk ys (o + xs.length) w ⟨fun _ _ _ => rfl, rfl, rfl, rfl, rfl⟩
        exact ⟨b2, b3, b4, Nat.le_of_eq b5.symm, fun k hk hne2 => b1 k hk (fun he => hne2 (by rw [he]; rfl))⟩
    · have holds : ∀ j u, xs[j]? = some u → w.cell? ((⟨g, o, none⟩ : Addr).add j) = some u := fun j u hu => by rw [addr_add]; exact hc j u hu
      have hrr : ∀ ty, _ := fun ty => run_append_grow (P := Try.prog) w t ty e i z ht hi hz ⟨g, o, none⟩ xs.length cap xs (by rw [hsize]; omega) holds ⟨nb, no, none⟩ ys.length c ys (by rw [hsize, Nat.mul_one]) hnews (by omega) (by omega) (growslice_fits (by omega) (by rw [hby]; calc (xs.length + ys.length) * bytes ≤ (xs.length + ys.length) * 24 := Nat.mul_le_mul_left _ hb24
              _ ≤ _ := by omega))
      obtain ⟨g1, g2⟩ := grown xs.length cap ys.length xs (Value.ownBlock (.slice (some ⟨g, o, none⟩) xs.length cap)) rfl rfl hl
      exact ⟨_, _, hrr, g1, g2, .inr ⟨w.heap.size, rfl, Nat.le_refl _⟩⟩
/-- .. from another row, which may be none. -/
theorem RowAt.app {B B2 e t : Nat} {w : World} {v v2 : Value} {xs ys : List Value} (h : RowAt B e w v xs) (h2 : RowAt B2 e w v2 ys) (hB : B ≤ w.heap.size) (i : TypeInfo) (z : Value) (bytes : Nat) (ht : Try.prog.underlying t = some (.slice e)) (hi : Try.prog.info? e = some i) (hz : i.zero = some z)
    (hsize : i.size = 1) (hby : i.bytes = bytes) (hzs : z.cells.size = 1) (hb24 : bytes ≤ 24) (hl : xs.length + ys.length < 2 ^ 40) (hy1 : ∀ u ∈ ys, u.oneCell' = true) :
    ∃ v' w', (∀ ty, (Builtin.append_ #[t, t] ty #[v, v2]).run Try.prog w = .ok v' w') ∧ RowAt B e w' v' (xs ++ ys) ∧ w.grownBy w' v.ownBlock ∧ (v'.ownBlock = v.ownBlock ∨ ∃ k, v'.ownBlock = some k ∧ w.heap.size ≤ k) := by
  have hrefl : w.grownBy w v.ownBlock := ⟨rfl, rfl, rfl, Nat.le_refl _, fun _ _ _ => rfl⟩
  rcases h2 with ⟨rfl, rfl⟩ | ⟨g, o, cap, rfl, hb, hk, hth, hc, hr, h3, h4⟩
  · refine ⟨v, w, fun ty => ?_, by simpa using h, hrefl, .inl rfl⟩
    rcases h with ⟨rfl, rfl⟩ | ⟨g, o, cap, rfl, _, _, _, _, _, hnc, _⟩
    · simp [Builtin.append_, run_underlying ht, sizeOf, typeInfo, hi, Builtin.lenOf, Builtin.firstCells]
    · simp [Builtin.append_, run_underlying ht, sizeOf, typeInfo, hi, Builtin.lenOf, Builtin.firstCells, hnc, storeCells]
  · by_cases h0 : 0 < ys.length
    · exact h.appendAll hB i z bytes ht hi hz hsize hby hzs hb24 hl hy1 h0 hc
    · obtain rfl : ys = [] := List.eq_nil_of_length_eq_zero (by omega)
      have hf := run_firstCells_some (P := Try.prog) w 1 0 ⟨g, o, none⟩ 0 cap [] rfl (by simp)
      refine ⟨v, w, fun ty => ?_, by simpa using h, hrefl, .inl rfl⟩
      rcases h with ⟨rfl, rfl⟩ | ⟨g, o, cap, rfl, _, _, _, _, _, hnc, _⟩
      · simp [Builtin.append_, run_underlying ht, sizeOf, typeInfo, hi, hsize, Builtin.lenOf, hf]
      · simp [Builtin.append_, run_underlying ht, sizeOf, typeInfo, hi, hsize, Builtin.lenOf, hf, hnc, storeCells]
end Go.Proofs.Ytmjeloinibembaa
