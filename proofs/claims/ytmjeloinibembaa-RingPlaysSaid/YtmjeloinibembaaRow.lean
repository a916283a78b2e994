/-
  ROWS: a slice of one-cell elements, wherever in its block it begins: one more is appended, the first is cut off.
-/
import Derived.Test.YtmjeloinibembaaAddA
import Derived.Laws.IdiomCopy
namespace Go.Proofs.Ytmjeloinibembaa
open Go.RowKit
set_option linter.unusedVariables false
set_option linter.unusedSimpArgs false
/-- a slice's elements. -/
def RowAt (B : Nat) (e : TypeId) (w : World) (v : Value) (xs : List Value) : Prop :=
  (v = .slice none 0 0 ∧ xs = []) ∨ ∃ g o cap, v = .slice (some ⟨g, o, none⟩) xs.length cap ∧ B ≤ g ∧ KindAt w g e ∧ Thaw w g ∧ (∀ j u, xs[j]? = some u → w.cell? ⟨g, o + j, none⟩ = some u) ∧ (∀ j, j < cap → (w.cell? ⟨g, o + j, none⟩).isSome = true) ∧ xs.length ≤ cap ∧ cap ≤ maxLen
theorem RowAt.nil (B : Nat) (e : TypeId) (w : World) : RowAt B e w (.slice none 0 0) [] := .inl ⟨rfl, rfl⟩
theorem RowAt.own {B e : Nat} {w : World} {v : Value} {xs : List Value} (h : RowAt B e w v xs) {k : Nat} (hk : v.ownBlock = some k) : KindAt w k e ∧ B ≤ k := by
  rcases h with ⟨rfl, _⟩ | ⟨g, o, cap, rfl, hb, hk', _⟩
  · simp [Value.ownBlock] at hk
  · simp only [Value.ownBlock, Option.some.injEq] at hk
    subst hk
    exact ⟨hk', hb⟩
theorem RowAt.same {B e : Nat} {w w' : World} {v : Value} {xs : List Value} (h : RowAt B e w v xs) (hs : ∀ k, v.ownBlock = some k → w'.heap[k]? = w.heap[k]?) : RowAt B e w' v xs := by
  rcases h with h | ⟨g, o, cap, rfl, hb, hk, ht, hc, hr, h1, h2⟩
  · exact .inl h
  · have hg := hs g rfl
    have hcell : ∀ j, w'.cell? ⟨g, j, none⟩ = w.cell? ⟨g, j, none⟩ := fun j => World.cell?_of_block (a := ⟨g, j, none⟩) hg
    refine .inr ⟨g, o, cap, rfl, hb, ?_, fun j => ?_, fun j u hu => (hcell _).trans (hc j u hu), fun j hj => by rw [hcell]; exact hr j hj, h1, h2⟩
    · obtain ⟨cs, fz, hk⟩ := hk
      exact ⟨cs, fz, hg.trans hk⟩
    · rw [World.frozen?_of_block (a := ⟨g, j, none⟩) hg]; exact ht j
theorem RowAt.only {S : Nat → Prop} {B e : Nat} {w w' : World} {v : Value} {xs : List Value} (h : RowAt B e w v xs) (ho : Only S w w') (hn : ∀ k, v.ownBlock = some k → ¬ S k) : RowAt B e w' v xs :=
  h.same fun k hk => ho.block k (h.own hk).1.lt (hn k hk)
theorem RowAt.below {B e : Nat} {w w' : World} {v : Value} {xs : List Value} (h : RowAt B e w v xs) (hb : Below w.heap.size w w') : RowAt B e w' v xs :=
  h.same fun k hk => hb.block k (h.own hk).1.lt
theorem RowAt.len {B e : Nat} {w : World} {v : Value} {xs : List Value} (h : RowAt B e w v xs) : ∃ a c, v = .slice a xs.length c := by
  rcases h with ⟨rfl, rfl⟩ | ⟨g, o, cap, rfl, _⟩
  · exact ⟨none, 0, rfl⟩
  · exact ⟨_, _, rfl⟩
/-- the first is cut off. -/
theorem RowAt.tail {B e : Nat} {w : World} {g o n cap : Nat} {x : Value} {xs : List Value} (h : RowAt B e w (.slice (some ⟨g, o, none⟩) n cap) (x :: xs)) :
    n = xs.length + 1 ∧ 1 ≤ cap ∧ w.cell? ⟨g, o, none⟩ = some x ∧ RowAt B e w (.slice (if cap = 1 then some ⟨g, o, none⟩ else some ⟨g, o + 1, none⟩) (n - 1) (cap - 1)) xs := by
  rcases h with ⟨h, _⟩ | ⟨g', o', cap', h, hb, hk, ht, hc, hr, h1, h2⟩
  · simp at h
  · simp only [Value.slice.injEq, Option.some.injEq, Addr.mk.injEq, and_true, true_and] at h
    obtain ⟨⟨rfl, rfl⟩, rfl, rfl⟩ := h
    simp only [List.length_cons] at h1 ⊢
    refine ⟨by first | rfl | trivial | simp, by omega, by have := hc 0 x rfl; rwa [Nat.add_zero] at this, ?_⟩
    by_cases h3 : cap = 1
    · have hx : xs = [] := List.eq_nil_of_length_eq_zero (by omega)
      subst hx
      rw [if_pos h3]
      exact .inr ⟨g, o, cap - 1, rfl, hb, hk, ht, fun j u hu => by simp at hu, fun j hj => absurd hj (by omega), by simp, by omega⟩
    · rw [if_neg h3]
      exact .inr ⟨g, o + 1, cap - 1, by simp, hb, hk, ht, fun j u hu => by have := hc (j + 1) u hu; rwa [show o + (j + 1) = o + 1 + j by omega] at this,
        fun j hj => by have := hr (j + 1) (by omega); rwa [show o + (j + 1) = o + 1 + j by omega] at this, by omega, by omega⟩
theorem RowAt.at' {B e : Nat} {w : World} {a : Option Addr} {n cap : Nat} {xs : List Value} (h : RowAt B e w (.slice a n cap) xs) {j : Nat} {x : Value} (hx : xs[j]? = some x) :
    ∃ g o, a = some ⟨g, o, none⟩ ∧ n = xs.length ∧ w.cell? ⟨g, o + j, none⟩ = some x := by
  rcases h with ⟨h, rfl⟩ | ⟨g, o, cap', h, hb, hk, ht, hc, hr, h1, h2⟩
  · simp at hx
  · simp only [Value.slice.injEq] at h
    exact ⟨g, o, h.1, h.2.1, hc j x hx⟩
/-- one more is appended. -/
theorem RowAt.append {B e t : Nat} {w : World} {v : Value} {xs : List Value} (h : RowAt B e w v xs) (hB : B ≤ w.heap.size) (i : TypeInfo) (z : Value) (bytes : Nat) (ht : Try.prog.underlying t = some (.slice e)) (hi : Try.prog.info? e = some i) (hz : i.zero = some z)
    (hsize : i.size = 1) (hby : i.bytes = bytes) (hzs : z.cells.size = 1) (hb24 : bytes ≤ 24) (hl : xs.length < 2 ^ 40) (x : Value) (hx1 : x.oneCell' = true) {nb : Nat} (hnb : w.cell? ⟨nb, 0, none⟩ = some x) (hne : v.ownBlock ≠ some nb) :
    ∃ v' w', (∀ ty, (Builtin.append_ #[t, t] ty #[v, .slice (some ⟨nb, 0, none⟩) 1 1]).run Try.prog w = .ok v' w') ∧ RowAt B e w' v' (xs ++ [x]) ∧ w.grownBy w' v.ownBlock ∧ (v'.ownBlock = v.ownBlock ∨ ∃ k, v'.ownBlock = some k ∧ w.heap.size ≤ k) := by
  have hnews : ∀ j u, [x][j]? = some u → w.cell? ((⟨nb, 0, none⟩ : Addr).add j) = some u := fun j u hu => by
    rcases j with _ | j
    · simp only [List.getElem?_cons_zero, Option.some.injEq] at hu; subst hu; rw [addr_add]; exact hnb
    · simp at hu
  have grown : ∀ (n old : Nat) (ys : List Value) (row : Option Nat), ys.length = n → n < 2 ^ 40 →
      RowAt B e (w.drew.alloc (.cells (ys.toArray ++ [x].toArray ++ Builtin.zeroCells z.cells (grownCap w (n + 1) old e - (n + 1))) e)) (.slice (some ⟨w.heap.size, 0, none⟩) (n + 1) (grownCap w (n + 1) old e)) (ys ++ [x]) ∧
      w.grownBy (w.drew.alloc (.cells (ys.toArray ++ [x].toArray ++ Builtin.zeroCells z.cells (grownCap w (n + 1) old e - (n + 1))) e)) row := by
    intro n old ys row hn hn40
    have hge := grownCap_ge w (n + 1) old e
    have hcm : grownCap w (n + 1) old e ≤ maxLen := grownCap_le_maxLen w (n + 1) old e (by unfold maxLen; omega)
    refine ⟨.inr ⟨w.heap.size, 0, _, by simp [hn], hB, KindAt.new _ _ _, fun j => ?_, fun j u hu => ?_, fun j hj => ?_, by simp [hn]; exact hge, hcm⟩, ⟨rfl, rfl, rfl, by simp, fun k hk _ => Below.heap_alloc w.drew _ k hk⟩⟩
    · have := Thaw.new w.drew (ys.toArray ++ [x].toArray ++ Builtin.zeroCells z.cells (grownCap w (n + 1) old e - (n + 1))) e j
      exact this
    · rw [World.cell?_alloc_at (w := w.drew) _ _ w.heap.size _ rfl, Nat.zero_add]
      have hj : j < (ys ++ [x]).length := (List.getElem?_eq_some_iff.1 hu).1
      rw [Array.getElem?_append_left (by simpa using hj)]
      simpa using hu
    · rw [World.cell?_alloc_at (w := w.drew) _ _ w.heap.size _ rfl, Nat.zero_add]
      have hs : (ys.toArray ++ [x].toArray ++ Builtin.zeroCells z.cells (grownCap w (n + 1) old e - (n + 1))).size = grownCap w (n + 1) old e := by
        simp only [Array.size_append, List.size_toArray, size_zeroCells, hzs, hn]; simp; omega
      rw [Array.getElem?_eq_getElem (by omega)]; rfl
  rcases h with ⟨rfl, rfl⟩ | ⟨g, o, cap, rfl, hb, hk, hth, hc, hr, h1, h2⟩
  · have hr : ∀ ty, _ := fun ty => run_append_nil (P := Try.prog) w t ty e i z ht hi hz ⟨nb, 0, none⟩ 1 1 [x] (by rw [hsize]; rfl) hnews (by decide) (by decide) (by omega)
    obtain ⟨g1, g2⟩ := grown 0 0 [] (Value.ownBlock (.slice none 0 0)) rfl (by decide)
    simp only [Nat.zero_add, List.nil_append] at g1 g2 hr
    refine ⟨_, _, hr, ?_, ?_, .inr ⟨w.heap.size, rfl, Nat.le_refl _⟩⟩
    · simpa using g1
    · simpa using g2
  · by_cases hroom : xs.length + 1 ≤ cap
    · have hst := run_storeCells_cells (P := Try.prog) g (o + xs.length) [x] 0 w (fun j hj => by
          simp only [List.length_cons, List.length_nil] at hj
          have := hr (xs.length + j) (by omega)
          rwa [show o + xs.length + 0 + j = o + (xs.length + j) by omega]) (fun j hj => hth _) (fun u hu => by simp only [List.mem_singleton] at hu; subst hu; exact hx1)
      have hf := run_firstCells_some (P := Try.prog) w i.size 1 ⟨nb, 0, none⟩ 1 1 [x] (by rw [hsize]; rfl) hnews
      have hwe : w.setCells g (o + xs.length) [x] = w.setCell ⟨g, o + xs.length, none⟩ x := rfl
      refine ⟨.slice (some ⟨g, o, none⟩) (xs.length + 1) cap, w.setCell ⟨g, o + xs.length, none⟩ x, fun ty => ?_, ?_, ?_, .inl rfl⟩
      · rw [Nat.add_zero, hwe] at hst
        rw [hsize] at hf
        have hst' : (storeCells ⟨g, o + xs.length, none⟩ [x]).run Try.prog w = .ok () (w.setCell ⟨g, o + xs.length, none⟩ x) := by
          simpa [storeCells] using hst
        simp [Builtin.append_, run_underlying ht, sizeOf, typeInfo, hi, Builtin.lenOf, hroom, hf, hsize, addr_add, hst']
      · have hlast : (w.cell? ⟨g, o + xs.length, none⟩).isSome = true := hr xs.length (by omega)
        obtain ⟨u0, hu0⟩ := Option.isSome_iff_exists.1 hlast
        refine .inr ⟨g, o, cap, by simp, hb, hk.setCell _ _, hth.setCell _ _, fun j u hu => ?_, fun j hj => ?_, by simpa using hroom, h2⟩
        · by_cases hj : j = xs.length
          · subst hj
            rw [cell_same _ hu0]
            simp at hu; rw [hu]
          · have hjl : j < xs.length := by
              have := (List.getElem?_eq_some_iff.1 hu).1
              simp at this; omega
            rw [cell_ne _ (.inr (by omega))]
            rw [List.getElem?_append_left hjl] at hu
            exact hc j u hu
        · by_cases hj2 : j = xs.length
          · subst hj2; rw [cell_same _ hu0]; rfl
          · rw [cell_ne _ (.inr (by omega))]; exact hr j hj
      · exact ⟨rfl, rfl, rfl, by simp, fun k hk hne2 => Below.heap_setCell _ _ _ _ (fun he => hne2 (by rw [he]; rfl))⟩
    · have holds : ∀ j u, xs[j]? = some u → w.cell? ((⟨g, o, none⟩ : Addr).add j) = some u := fun j u hu => by rw [addr_add]; exact hc j u hu
      have hrr : ∀ ty, _ := fun ty => run_append_grow (P := Try.prog) w t ty e i z ht hi hz ⟨g, o, none⟩ xs.length cap xs (by rw [hsize]; omega) holds ⟨nb, 0, none⟩ 1 1 [x] (by rw [hsize]; rfl) hnews (by omega) (by omega) (growslice_fits (by omega) (by rw [hby]; calc (xs.length + 1) * bytes ≤ (xs.length + 1) * 24 := Nat.mul_le_mul_left _ hb24
              _ ≤ _ := by omega))
      obtain ⟨g1, g2⟩ := grown xs.length cap xs (Value.ownBlock (.slice (some ⟨g, o, none⟩) xs.length cap)) rfl hl
      exact ⟨_, _, hrr, g1, g2, .inr ⟨w.heap.size, rfl, Nat.le_refl _⟩⟩
end Go.Proofs.Ytmjeloinibembaa
