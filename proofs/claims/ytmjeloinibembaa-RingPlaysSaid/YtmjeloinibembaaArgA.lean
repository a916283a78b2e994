/-
  ARGUMENTS: slices of bytes, and slices of these, as they are handed in.
-/
import Derived.Test.YtmjeloinibembaaStB
import Derived.Deep.Matrix
import Derived.ChangeSlices
import Derived.WideKeyArgs
import Derived.RowKit
namespace Go.Proofs.Ytmjeloinibembaa
open Go.ChangeShapes Go.WideShapes Go.ChangeAt Go.RowKit Go.Deep
set_option linter.unusedVariables false
set_option linter.unusedSimpArgs false
theorem cells30' : Try.prog.cellsOf 30 = 1 := by kernel_rfl
theorem cells5' : Try.prog.cellsOf 5 = 1 := by kernel_rfl
theorem laid : laidOutB Try.prog = true := by kernel_rfl
theorem u8_of {z : Int} (h : (Lit.int .u8 z).wf = true) : 0 ≤ z ∧ z < 256 := by
  simp only [Lit.wf, Bool.and_eq_true, decide_eq_true_eq] at h
  have e1 : IntKind.u8.min = 0 := rfl
  have e2 : IntKind.u8.max = 255 := rfl
  omega
theorem sl_of {W : World} {A : Option Addr} {L C : Nat} {Z : List Int} (h1 : L ≤ C) (h2 : Z.length = C) (h3 : ∀ n ∈ Z, (Lit.int .u8 n).wf = true) (h4 : A = none → C = 0) (h5 : ∀ a', A = some a' → ∀ c, c < C → W.cell? (a'.add c) = some (.int .u8 (Z.getD c 0))) :
    SlB W.heap.size (· < W.heap.size) W (.slice A L C) ((Z.take L).map Int.toNat) := by
  have hlen : ((Z.take L).map Int.toNat).length = L := by simp; omega
  refine ⟨⟨A, C, by rw [hlen], ?_⟩, fun x hx => ?_⟩
  · by_cases hL : L = 0
    · left; subst hL; simp
    · right
      cases A with
      | none => have := h4 rfl; omega
      | some a =>
        have hc0 := h5 a rfl 0 (by omega)
        obtain ⟨b, o, spot⟩ := a
        have hspot : spot = none := by simpa [Addr.add] using World.cell?_spot hc0
        subst hspot
        have hb : b < W.heap.size := by have := World.block_lt_of_cell? _ _ hc0; rwa [addr_add] at this
        refine ⟨b, o, rfl, hb, hb, .inl hb, fun i x hx => ?_⟩
        have hi : i < L := by have := (List.getElem?_eq_some_iff.1 hx).1; omega
        have h6 := h5 _ rfl i (by omega)
        rw [addr_add] at h6
        rw [h6]
        have hz : i < Z.length := by omega
        have h7 := (u8_of (h3 _ (List.getElem_mem hz))).1
        simp [hi, hz] at hx
        rw [← hx]
        simp [List.getD, List.getElem?_eq_getElem hz, Int.toNat_of_nonneg h7]
  · simp only [List.mem_map] at hx
    obtain ⟨z, hz, rfl⟩ := hx
    have := u8_of (h3 z (List.mem_of_mem_take hz))
    omega
set_option maxRecDepth 100000 in
theorem arg_bytes {H : Type} {enc : TypeId × Value → H} {W : World} {base : Nat} {v : Value} {d : DataW H} {p : List MemPlace} (hval : Value.okWide Try.prog W .any base 30 v) (h : DataW.Trod enc Try.prog W 0 (fun _ => true) true 30 v d p) :
    ∃ a n c l, v = .slice a n c ∧ l.length = n ∧ SlB W.heap.size (· < W.heap.size) W v l := by
  obtain ⟨a0, len, cap, rfl⟩ := okWide_slice Try.underlying30 hval
  obtain ⟨fuel, hf⟩ := h
  rcases open_ints Try.underlying30 Try.underlying5 cells5' hf with ⟨hcs, _⟩ | ⟨a, len', cap', zs, hcs, _, hl, hm, hz, hx, hcell, hwz⟩
  · simp [Value.cells] at hcs
    obtain ⟨rfl, rfl, rfl⟩ := hcs
    exact ⟨none, 0, 0, [], rfl, rfl, ⟨none, 0, rfl, .inl rfl⟩, by simp⟩
  · simp [Value.cells] at hcs
    obtain ⟨rfl, rfl, rfl⟩ := hcs
    simp only [if_true] at hz
    refine ⟨_, _, _, (zs.take len).map Int.toNat, rfl, by simp; omega, sl_of hl hz hwz (fun h => by simp at h) fun a' ha c hc => ?_⟩
    obtain rfl := Option.some.inj ha
    exact hcell c (by omega)
set_option maxRecDepth 100000 in
theorem arg_rows {H : Type} {enc : TypeId × Value → H} {W : World} {base : Nat} {v : Value} {d : DataW H} {p : List MemPlace} (hval : Value.okWide Try.prog W .any base 32 v) (h : DataW.Trod enc Try.prog W 0 (fun _ => true) true 32 v d p) :
    ∃ a0 n c0 xs cs, v = .slice a0 n c0 ∧ xs.length = n ∧ (n = 0 ∨ ∃ g o, a0 = some ⟨g, o, none⟩ ∧ ∀ (j : Nat) u, xs[j]? = some u → W.cell? ⟨g, o + j, none⟩ = some u) ∧ SlL W.heap.size (· < W.heap.size) W xs cs := by
  obtain ⟨a0, len, cap, rfl⟩ := okWide_slice Try.underlying32 hval
  obtain ⟨fuel, hf⟩ := h
  rcases open_int_rows Try.underlying32 Try.underlying30 Try.underlying5 cells30' cells5' hf with ⟨hcs, _⟩ | ⟨a, len', cap', A, L, C, Z, hcs, _, hl, hm, hx, hrows⟩
  · simp [Value.cells] at hcs
    obtain ⟨rfl, rfl, rfl⟩ := hcs
    exact ⟨none, 0, 0, [], [], rfl, rfl, .inl rfl, SlL.nil _ _ _⟩
  · simp [Value.cells] at hcs
    obtain ⟨rfl, rfl, rfl⟩ := hcs
    refine ⟨_, _, _, (List.range len).map fun r => .slice (A r) (L r) (C r), (List.range len).map fun r => ((Z r).take (L r)).map Int.toNat, rfl, by simp, ?_, by simp, fun j v l hv hl' => ?_⟩
    · by_cases h0 : len = 0
      · exact .inl h0
      · right
        have hc0 := (hrows 0 (by omega)).1
        obtain ⟨b, o, spot⟩ := a
        have hspot : spot = none := by simpa [Addr.add] using World.cell?_spot hc0
        subst hspot
        refine ⟨b, o, rfl, fun j u hu => ?_⟩
        have hj : j < len := by have := (List.getElem?_eq_some_iff.1 hu).1; simpa using this
        have h6 := (hrows j (by omega)).1
        rw [addr_add] at h6
        simp [hj] at hu
        rw [h6, hu]
    · have hj : j < len := by have := (List.getElem?_eq_some_iff.1 hv).1; simpa using this
      simp [hj] at hv hl'
      subst hv; subst hl'
      obtain ⟨h1, h2, h3, h4, h5, h6, h7⟩ := hrows j (by omega)
      have := sl_of h2 h4 h5 h6 fun a' ha c hc => (h7 a' ha).2 c hc
      simpa using this
end Go.Proofs.Ytmjeloinibembaa
