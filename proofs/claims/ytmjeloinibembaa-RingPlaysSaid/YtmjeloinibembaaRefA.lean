/-
  THE DOCUMENT'S RING (barbicanref10, barbicanref8): rows of records.
-/
import Derived.Test.YtmjeloinibembaaOrdC
namespace Go.Proofs.Ytmjeloinibembaa
open Go.RowKit
set_option linter.unusedVariables false
set_option linter.unusedSimpArgs false
theorem info104 : Try.prog.info? 104 = some Try.t104 := by kernel_rfl
theorem zero104 : Try.t104.zero = some (.agg #[.int .i64 0, .int .i64 0, .int .i64 0, .slice none 0 0]) := by kernel_rfl
theorem size104 : Try.t104.size = 4 := by kernel_rfl
theorem bytes104 : Try.t104.bytes = 48 := by kernel_rfl
theorem und100 : Try.prog.underlying 100 = some (.slice 104) := by kernel_rfl
theorem info106 : Try.prog.info? 106 = some Try.t106 := by kernel_rfl
theorem zero106 : Try.t106.zero = some (.pointer none) := by kernel_rfl
theorem size106 : Try.t106.size = 1 := by kernel_rfl
theorem bytes106 : Try.t106.bytes = 8 := by kernel_rfl
theorem und97 : Try.prog.underlying 97 = some (.slice 106) := by kernel_rfl
/-- a slice of n elements of four cells each. -/
def RowQ (B : Nat) (w : World) (v : Value) (n : Nat) (xs : List Value) : Prop :=
  xs.length = n * 4 ∧ ((v = .slice none 0 0 ∧ n = 0) ∨ ∃ g o cap, v = .slice (some ⟨g, o, none⟩) n cap ∧ B ≤ g ∧ KindAt w g 104 ∧ Thaw w g ∧ (∀ j u, xs[j]? = some u → w.cell? ⟨g, o + j, none⟩ = some u) ∧ (∀ j, j < cap * 4 → (w.cell? ⟨g, o + j, none⟩).isSome = true) ∧ n ≤ cap ∧ cap ≤ maxLen)
theorem RowQ.nil (B : Nat) (w : World) : RowQ B w (.slice none 0 0) 0 [] := ⟨rfl, .inl ⟨rfl, rfl⟩⟩
theorem RowQ.own {B : Nat} {w : World} {v : Value} {n : Nat} {xs : List Value} (h : RowQ B w v n xs) {k : Nat} (hk : v.ownBlock = some k) : KindAt w k 104 ∧ B ≤ k := by
  rcases h.2 with ⟨rfl, _⟩ | ⟨g, o, cap, rfl, hb, hk', _⟩
  · simp [Value.ownBlock] at hk
  · simp only [Value.ownBlock, Option.some.injEq] at hk
    subst hk
    exact ⟨hk', hb⟩
theorem RowQ.len {B : Nat} {w : World} {v : Value} {n : Nat} {xs : List Value} (h : RowQ B w v n xs) : ∃ a c, v = .slice a n c := by
  rcases h.2 with ⟨rfl, rfl⟩ | ⟨g, o, cap, rfl, _⟩
  · exact ⟨none, 0, rfl⟩
  · exact ⟨_, _, rfl⟩
theorem RowQ.same {B : Nat} {w w' : World} {v : Value} {n : Nat} {xs : List Value} (h : RowQ B w v n xs) (hs : ∀ k, v.ownBlock = some k → w'.heap[k]? = w.heap[k]?) : RowQ B w' v n xs := by
  refine ⟨h.1, ?_⟩
  rcases h.2 with h | ⟨g, o, cap, rfl, hb, hk, ht, hc, hr, h1, h2⟩
  · exact .inl h
  · have hg := hs g rfl
    have hcell : ∀ j, w'.cell? ⟨g, j, none⟩ = w.cell? ⟨g, j, none⟩ := fun j => World.cell?_of_block (a := ⟨g, j, none⟩) hg
    refine .inr ⟨g, o, cap, rfl, hb, ?_, fun j => ?_, fun j u hu => (hcell _).trans (hc j u hu), fun j hj => by rw [hcell]; exact hr j hj, h1, h2⟩
    · obtain ⟨cs, fz, hk⟩ := hk
      exact ⟨cs, fz, hg.trans hk⟩
    · rw [World.frozen?_of_block (a := ⟨g, j, none⟩) hg]; exact ht j
theorem RowQ.only {S : Nat → Prop} {B : Nat} {w w' : World} {v : Value} {n : Nat} {xs : List Value} (h : RowQ B w v n xs) (ho : Only S w w') (hn : ∀ k, v.ownBlock = some k → ¬ S k) : RowQ B w' v n xs :=
  h.same fun k hk => ho.block k (h.own hk).1.lt (hn k hk)
theorem RowQ.at' {B : Nat} {w : World} {a : Option Addr} {n m cap : Nat} {xs : List Value} (h : RowQ B w (.slice a m cap) n xs) (hn : 0 < n) : ∃ g o, a = some ⟨g, o, none⟩ ∧ m = n ∧ n ≤ cap ∧ B ≤ g ∧ KindAt w g 104 ∧ Thaw w g ∧ ∀ j u, xs[j]? = some u → w.cell? ⟨g, o + j, none⟩ = some u := by
  rcases h.2 with ⟨h, rfl⟩ | ⟨g, o, cap', h, hb, hk, ht, hc, hr, h1, h2⟩
  · omega
  · simp only [Value.slice.injEq] at h
    obtain ⟨h3, h4, h5⟩ := h
    exact ⟨g, o, h3, h4, by omega, hb, hk, ht, hc⟩
/-- a cell is set. -/
theorem RowQ.set {B : Nat} {w : World} {g o m cap n j : Nat} {xs : List Value} (h : RowQ B w (.slice (some ⟨g, o, none⟩) m cap) n xs) (hj : j < n * 4) (v : Value) : RowQ B (w.setCell ⟨g, o + j, none⟩ v) (.slice (some ⟨g, o, none⟩) m cap) n (xs.set j v) := by
  refine ⟨by rw [List.length_set]; exact h.1, ?_⟩
  have hl := h.1
  rcases h.2 with ⟨h, _⟩ | ⟨g', o', cap', h, hb, hk, ht, hc, hr, h1, h2⟩
  · simp at h
  · simp only [Value.slice.injEq, Option.some.injEq, Addr.mk.injEq, and_true, true_and] at h
    obtain ⟨⟨rfl, rfl⟩, rfl, rfl⟩ := h
    obtain ⟨u0, hu0⟩ := Option.isSome_iff_exists.1 (hr j (by omega))
    refine .inr ⟨g, o, cap, rfl, hb, hk.setCell _ _, ht.setCell _ _, fun i u hu => ?_, fun i hi => ?_, h1, h2⟩
    · rw [List.getElem?_set] at hu
      split at hu
      · rename_i hij
        subst hij
        first
          | (simp only [Option.some.injEq] at hu; subst hu; exact cell_same _ hu0)
          | (rw [if_pos (by omega)] at hu; simp only [Option.some.injEq] at hu; subst hu; exact cell_same _ hu0)
      · rename_i hij
        rw [cell_ne _ (.inr (by omega))]; exact hc i u hu
    · by_cases hij : i = j
      · subst hij; rw [cell_same _ hu0]; rfl
      · rw [cell_ne _ (.inr (by omega))]; exact hr i hi
/-- the part behind. -/
theorem RowQ.behind {B : Nat} {w : World} {v : Value} {n k : Nat} {xs : List Value} (h : RowQ B w v n xs) (hk : k ≤ n) : ∃ a c, v = .slice a n c ∧ n ≤ c ∧ ∀ ad, (match a with | none => none | some x => if c = k then some x else some (x.add (k * 4))) = ad → RowQ B w (.slice ad (n - k) (c - k)) (n - k) (xs.drop (k * 4)) := by
  have hl := h.1
  rcases h.2 with ⟨rfl, rfl⟩ | ⟨g, o, cap, rfl, hb, hk', ht, hc, hr, h1, h2⟩
  · obtain rfl : k = 0 := by omega
    exact ⟨none, 0, rfl, Nat.le_refl _, fun ad had => by subst had; exact ⟨by simp [hl], .inl ⟨rfl, rfl⟩⟩⟩
  · refine ⟨_, cap, rfl, h1, fun ad had => ⟨by rw [List.length_drop, hl]; omega, .inr ?_⟩⟩
    simp only [addr_add] at had
    by_cases h3 : cap = k
    · rw [if_pos h3] at had
      exact ⟨g, o, cap - k, by rw [had], hb, hk', ht, fun j u hu => by
        rw [List.getElem?_drop] at hu
        have := (List.getElem?_eq_some_iff.1 hu).1; omega, fun j hj => by omega, by omega, by omega⟩
    · rw [if_neg h3] at had
      exact ⟨g, o + k * 4, cap - k, by rw [had], hb, hk', ht, fun j u hu => by rw [List.getElem?_drop] at hu; have := hc (k * 4 + j) u hu; rwa [← Nat.add_assoc] at this,
        fun j hj => by have := hr (k * 4 + j) (by omega); rwa [← Nat.add_assoc] at this, by omega, by omega⟩
/-- one more is appended. -/
theorem RowQ.append {B : Nat} {w : World} {v : Value} {n : Nat} {xs : List Value} (h : RowQ B w v n xs) (hB : B ≤ w.heap.size) (hl40 : n < 2 ^ 30) {ys : List Value} (hy4 : ys.length = 4) (hy1 : ∀ u ∈ ys, u.oneCell' = true) {nb : Nat} (hnews : ∀ j u, ys[j]? = some u → w.cell? ⟨nb, j, none⟩ = some u) :
    ∃ v' w', (∀ ty, (Builtin.append_ #[100, 100] ty #[v, .slice (some ⟨nb, 0, none⟩) 1 1]).run Try.prog w = .ok v' w') ∧ RowQ B w' v' (n + 1) (xs ++ ys) ∧ w.grownBy w' v.ownBlock ∧ (v'.ownBlock = v.ownBlock ∨ ∃ k, v'.ownBlock = some k ∧ w.heap.size ≤ k) := by
  have hnews : ∀ j u, ys[j]? = some u → w.cell? ((⟨nb, 0, none⟩ : Addr).add j) = some u := fun j u hu => by rw [addr_add, Nat.zero_add]; exact hnews j u hu
  have hlx := h.1
  have grown : ∀ (m old : Nat) (zs : List Value) (row : Option Nat), zs.length = m * 4 → m < 2 ^ 30 →
      RowQ B (w.drew.alloc (.cells (zs.toArray ++ ys.toArray ++ Builtin.zeroCells (Value.agg #[.int .i64 0, .int .i64 0, .int .i64 0, .slice none 0 0]).cells (grownCap w (m + 1) old 104 - (m + 1))) 104)) (.slice (some ⟨w.heap.size, 0, none⟩) (m + 1) (grownCap w (m + 1) old 104)) (m + 1) (zs ++ ys) ∧
      w.grownBy (w.drew.alloc (.cells (zs.toArray ++ ys.toArray ++ Builtin.zeroCells (Value.agg #[.int .i64 0, .int .i64 0, .int .i64 0, .slice none 0 0]).cells (grownCap w (m + 1) old 104 - (m + 1))) 104)) row := by
    intro m old zs row hm hn40
    have hge := grownCap_ge w (m + 1) old 104
    have hcm : grownCap w (m + 1) old 104 ≤ maxLen := grownCap_le_maxLen w (m + 1) old 104 (by unfold maxLen; omega)
    refine ⟨⟨by rw [List.length_append, hm, hy4]; omega, .inr ⟨w.heap.size, 0, _, rfl, hB, KindAt.new _ _ _, fun j => ?_, fun j u hu => ?_, fun j hj => ?_, hge, hcm⟩⟩, ⟨rfl, rfl, rfl, by simp, fun k hk _ => Below.heap_alloc w.drew _ k hk⟩⟩
    · have := Thaw.new w.drew (zs.toArray ++ ys.toArray ++ Builtin.zeroCells (Value.agg #[.int .i64 0, .int .i64 0, .int .i64 0, .slice none 0 0]).cells (grownCap w (m + 1) old 104 - (m + 1))) 104 j
      exact this
    · rw [World.cell?_alloc_at (w := w.drew) _ _ w.heap.size _ rfl, Nat.zero_add]
      have hj : j < (zs ++ ys).length := (List.getElem?_eq_some_iff.1 hu).1
      rw [Array.getElem?_append_left (by simpa using hj)]
      simpa using hu
    · rw [World.cell?_alloc_at (w := w.drew) _ _ w.heap.size _ rfl, Nat.zero_add]
      have hzs : ((Value.agg #[.int .i64 0, .int .i64 0, .int .i64 0, .slice none 0 0]).cells).size = 4 := rfl
      have hs : (zs.toArray ++ ys.toArray ++ Builtin.zeroCells (Value.agg #[.int .i64 0, .int .i64 0, .int .i64 0, .slice none 0 0]).cells (grownCap w (m + 1) old 104 - (m + 1))).size = grownCap w (m + 1) old 104 * 4 := by
        simp only [Array.size_append, List.size_toArray, size_zeroCells, hzs, hm, hy4]; omega
      rw [Array.getElem?_eq_getElem (by omega)]; rfl
  rcases h.2 with ⟨rfl, rfl⟩ | ⟨g, o, cap, rfl, hb, hk, hth, hc, hr, h1, h2⟩
  · obtain rfl : xs = [] := List.eq_nil_of_length_eq_zero (by omega)
    have hr : ∀ ty, _ := fun ty => run_append_nil (P := Try.prog) w 100 ty 104 Try.t104 _ und100 info104 zero104 ⟨nb, 0, none⟩ 1 1 ys (by rw [size104, hy4]) hnews (by decide) (by decide) (by rw [bytes104]; omega)
    obtain ⟨g1, g2⟩ := grown 0 0 [] (Value.ownBlock (.slice none 0 0)) rfl (by omega)
    simp only [Nat.zero_add, List.nil_append] at g1 g2 hr
    refine ⟨_, _, hr, ?_, ?_, .inr ⟨w.heap.size, rfl, Nat.le_refl _⟩⟩
    · simpa using g1
    · simpa using g2
  · by_cases hroom : n + 1 ≤ cap
    · have hst := run_storeCells_cells (P := Try.prog) g (o + n * 4) ys 0 w (fun j hj => by
          have := hr (n * 4 + j) (by omega)
          rwa [show o + n * 4 + 0 + j = o + (n * 4 + j) by omega]) (fun j hj => hth _) hy1
      have hf := run_firstCells_some (P := Try.prog) w Try.t104.size 1 ⟨nb, 0, none⟩ 1 1 ys (by rw [size104, hy4]) hnews
      refine ⟨.slice (some ⟨g, o, none⟩) (n + 1) cap, w.setCells g (o + n * 4) ys, fun ty => ?_, ?_, ?_, .inl rfl⟩
      · rw [Nat.add_zero] at hst
        rw [size104] at hf
        simp [Builtin.append_, run_underlying und100, sizeOf, typeInfo, info104, Builtin.lenOf, hroom, hf, size104, addr_add, hst]
      · have hin : ∀ j (hj : j < ys.length), (w.setCells g (o + n * 4) ys).cell? ⟨g, o + n * 4 + j, none⟩ = some ys[j] := World.cell?_setCells_in g ys (o + n * 4) w (fun j hj => by
          have := hr (n * 4 + j) (by omega)
          rwa [show o + n * 4 + j = o + (n * 4 + j) by omega])
        have hout : ∀ j, j < n * 4 → (w.setCells g (o + n * 4) ys).cell? ⟨g, o + j, none⟩ = w.cell? ⟨g, o + j, none⟩ := fun j hj => World.cell?_setCells_out g ys (o + n * 4) w _ (fun _ _ => .inl (by show o + j < o + n * 4; omega))
        have hout2 : ∀ j, n * 4 + 4 ≤ j → (w.setCells g (o + n * 4) ys).cell? ⟨g, o + j, none⟩ = w.cell? ⟨g, o + j, none⟩ := fun j hj => World.cell?_setCells_out g ys (o + n * 4) w _ (fun _ _ => .inr (by show o + n * 4 + ys.length ≤ o + j; omega))
        have hkind : KindAt (w.setCells g (o + n * 4) ys) g 104 := by
          have : ∀ (vs : List Value) (p : Nat) (u : World), KindAt u g 104 → KindAt (u.setCells g p vs) g 104 := fun vs => by
            induction vs with
            | nil => intro p u h; exact h
            | cons a l ih => intro p u h; exact ih (p + 1) _ (h.setCell _ _)
          exact this ys _ w hk
        refine ⟨by rw [List.length_append, hlx, hy4]; omega, .inr ⟨g, o, cap, rfl, hb, hkind, fun j => by rw [World.frozen?_setCells]; exact hth j, fun j u hu => ?_, fun j hj => ?_, hroom, h2⟩⟩
        · by_cases hj : j < xs.length
          · rw [hout j (by omega)]
            rw [List.getElem?_append_left hj] at hu
            exact hc j u hu
          · rw [List.getElem?_append_right (by omega)] at hu
            obtain ⟨h3, h4⟩ := List.getElem?_eq_some_iff.1 hu
            have := hin (j - xs.length) h3
            rw [show o + n * 4 + (j - xs.length) = o + j by omega] at this
            rw [this, h4]
        · by_cases hj1 : j < n * 4
          · rw [hout j hj1]; exact hr j hj
          · by_cases hj2 : j < n * 4 + 4
            · have := hin (j - n * 4) (by omega)
              rw [show o + n * 4 + (j - n * 4) = o + j by omega] at this
              rw [this]; rfl
            · rw [hout2 j (by omega)]; exact hr j hj
      · have oc : ∀ (a : Value) (p : Nat) (u : World), Only (fun _ => True) u (u.setCell ⟨g, p, none⟩ a) := fun a p u => Only.setCell (S := fun _ => True) (Only.refl _ u) (fun _ => trivial) a
        have hblk : ∀ (vs : List Value) (p : Nat) (u : World), (∀ k, k < w.heap.size → k ≠ g → u.heap[k]? = w.heap[k]?) ∧ u.os = w.os ∧ u.tape = w.tape ∧ u.output = w.output ∧ u.heap.size = w.heap.size → (∀ k, k < w.heap.size → k ≠ g → (u.setCells g p vs).heap[k]? = w.heap[k]?) ∧ (u.setCells g p vs).os = w.os ∧ (u.setCells g p vs).tape = w.tape ∧ (u.setCells g p vs).output = w.output ∧ (u.setCells g p vs).heap.size = w.heap.size := fun vs => by
            induction vs with
            | nil => intro p u h; exact h
            | cons a l ih => intro p u h; exact ih (p + 1) _ ⟨fun k hk hne => (Below.heap_setCell _ _ _ _ (fun he => hne he)).trans (h.1 k hk hne), (oc a p u).os.trans h.2.1, (oc a p u).tape.trans h.2.2.1, (oc a p u).output.trans h.2.2.2.1, by simpa using h.2.2.2.2⟩
        obtain ⟨b1, b2, b3, b4, b5⟩ := hblk ys (o + n * 4) w ⟨fun _ _ _ => rfl, rfl, rfl, rfl, rfl⟩
        exact ⟨b2, b3, b4, Nat.le_of_eq b5.symm, fun k hk hne2 => b1 k hk (fun he => hne2 (by rw [he]; rfl))⟩
    · have holds : ∀ j u, xs[j]? = some u → w.cell? ((⟨g, o, none⟩ : Addr).add j) = some u := fun j u hu => by rw [addr_add]; exact hc j u hu
      have hrr : ∀ ty, _ := fun ty => run_append_grow (P := Try.prog) w 100 ty 104 Try.t104 _ und100 info104 zero104 ⟨g, o, none⟩ n cap xs (by rw [size104]; exact hlx) holds ⟨nb, 0, none⟩ 1 1 ys (by rw [size104, hy4]) hnews (by omega) (by omega) (growslice_fits (by omega) (by rw [bytes104]; omega))
      obtain ⟨g1, g2⟩ := grown n cap xs (Value.ownBlock (.slice (some ⟨g, o, none⟩) n cap)) hlx hl40
      exact ⟨_, _, hrr, g1, g2, .inr ⟨w.heap.size, rfl, Nat.le_refl _⟩⟩
end Go.Proofs.Ytmjeloinibembaa
