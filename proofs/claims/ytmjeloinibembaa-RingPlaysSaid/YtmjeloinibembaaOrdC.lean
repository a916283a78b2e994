/-
  RINGS: Set as a law meets it; rows of numbers that are made and filled.
-/
import Derived.Test.YtmjeloinibembaaOrdB
namespace Go.Proofs.Ytmjeloinibembaa
open Go.RowKit
set_option linter.unusedVariables false
set_option linter.unusedSimpArgs false
theorem set_ok {B : Nat} {Pr : Nat → Prop} (w : World) {R : RingS} (H : Hid (RingAt B Pr w R)) {mb : Nat} (hmb : Hid (R.mb = mb)) {i : Nat} {x : Rgn} (hx : Hid (R.rs[i]? = some x)) {sb so m c : Nat} {g : Nat → Nat} (hb : Hid (Bts w sb so m g)) (hg : Hid (∀ i, i < m → g i < 256)) (hm : Hid (m ≤ x.n ∧ 1 ≤ x.n)) {id : Int} (hid : Hid (id = i + 1)) :
    Calls Try.prog 20 #[.pointer (some ⟨mb, 0, none⟩), .int .i64 id, .int .i64 0, .slice (some ⟨sb, so, none⟩) m c] w fun e w' => e = .returned (.bool true) ∧ Only (fun k => ¬ Pr k) w w' ∧ ∃ R', RingAt B Pr w' R' ∧ Same R R' ∧ R'.rows = R.rows ∧ R'.rs = R.rs.set i { x with f := fun k => if k < m then g k else x.f k } := by
  obtain rfl := hmb.out
  have hxm := List.mem_of_getElem? hx.out
  obtain ⟨ab, htab⟩ := H.out.mem.tab (by
    intro h
    have := congrArg List.length h
    simp [RingS.l] at this
    rw [this] at hxm; simp at hxm)
  have hl : R.l[i]? = some (false, x.rb) := by unfold RingS.l; rw [List.getElem?_map, hx.out]; rfl
  have hX := H.out.regs x hxm
  refine (f20_in w (Lib.hid htab) hid (Lib.hid hl) (Lib.hid hX.1) hb hg (Lib.hid hm.out.1) (Lib.hid hm.out.2)).mono ?_
  rintro e w' ⟨he, hO, hX'⟩
  exact ⟨he, hO.mono fun k _ (hk : k = x.bb) => hk ▸ hX.2.2, _, ring_set H.out hx.out hO hX', ⟨rfl, rfl, rfl⟩, rfl, rfl⟩
theorem make_ints (w : World) {n : Nat} (hn : n < 2 ^ 30) {v : Int} (hv : v = n) :
    ∃ w', (Instr.makeSlice 37 (.int .i64 v) (.int .i64 v)).run Try.prog w = .ok (.slice (some ⟨w.heap.size, 0, none⟩) n n) w' ∧ RowAt w.heap.size 3 w' (.slice (some ⟨w.heap.size, 0, none⟩) n n) (List.replicate n (.int .i64 0)) ∧ Below w.heap.size w w' := by
  subst hv
  obtain ⟨w', h1, h2, h3⟩ := run_make_full (P := Try.prog) w w.heap.size 37 3 Try.t3 (.int .i64 0) 1 und37' info3 zero3 size3 .i64 .i64 n (by rw [bytes3]; omega) (by unfold maxLen; omega) (Nat.le_refl _)
  have hk := own_kind h2 rfl
  have e : (madeCells (Value.int IntKind.i64 0).cells (n * 1)).toList = List.replicate n (Value.int .i64 0) := by rw [Nat.mul_one]; exact toList_madeCells_one _ n
  rw [e] at h2
  have h4 := row_of_own (xs := List.replicate n (Value.int .i64 0)) (by rw [List.length_replicate]; exact h2)
  exact ⟨w', h1, h4, ⟨h3.os, h3.tape, h3.output, h3.size, fun k hk => h3.block k hk (by simp)⟩⟩
theorem RowAt.set {B e : Nat} {w : World} {g o n cap j : Nat} {xs : List Value} (h : RowAt B e w (.slice (some ⟨g, o, none⟩) n cap) xs) (hj : j < xs.length) (v : Value) : RowAt B e (w.setCell ⟨g, o + j, none⟩ v) (.slice (some ⟨g, o, none⟩) n cap) (xs.set j v) := by
  rcases h with ⟨h, _⟩ | ⟨g', o', cap', h, hb, hk, ht, hc, hr, h1, h2⟩
  · simp at h
  · simp only [Value.slice.injEq, Option.some.injEq, Addr.mk.injEq, and_true, true_and] at h
    obtain ⟨⟨rfl, rfl⟩, rfl, rfl⟩ := h
    obtain ⟨u0, hu0⟩ := Option.isSome_iff_exists.1 (hr j (by omega))
    refine .inr ⟨g, o, cap, by simp, hb, hk.setCell _ _, ht.setCell _ _, fun i u hu => ?_, fun i hi => ?_, by simpa using h1, h2⟩
    · rw [List.getElem?_set] at hu
      split at hu
      · rename_i hij
        subst hij
        first
          | (simp only [Option.some.injEq] at hu; subst hu; exact cell_same _ hu0)
          | (rw [if_pos hj] at hu; simp only [Option.some.injEq] at hu; subst hu; exact cell_same _ hu0)
      · rename_i hij
        rw [cell_ne _ (.inr (by omega))]; exact hc i u hu
    · by_cases hij : i = j
      · subst hij; rw [cell_same _ hu0]; rfl
      · rw [cell_ne _ (.inr (by omega))]; exact hr i hi
theorem RowAt.free {B e : Nat} {w : World} {g o n cap : Nat} {xs : List Value} (h : RowAt B e w (.slice (some ⟨g, o, none⟩) n cap) xs) : Thaw w g ∧ n = xs.length ∧ B ≤ g ∧ KindAt w g e := by
  rcases h with ⟨h, _⟩ | ⟨g', o', cap', h, hb, hk, ht, hc, hr, h1, h2⟩
  · simp at h
  · simp only [Value.slice.injEq, Option.some.injEq, Addr.mk.injEq, and_true, true_and] at h
    obtain ⟨⟨rfl, rfl⟩, rfl, rfl⟩ := h
    exact ⟨ht, rfl, hb, hk⟩
theorem SlB.at {B : Nat} {Pr : Nat → Prop} {w : World} {a : Option Addr} {n c : Nat} {l : List Nat} (h : SlB B Pr w (.slice a n c) l) {j x : Nat} (hj : l[j]? = some x) : ∃ b o, a = some ⟨b, o, none⟩ ∧ w.cell? ⟨b, o + j, none⟩ = some (.int .u8 (x : Int)) ∧ x < 256 := by
  obtain ⟨⟨a', c', h1, h2⟩, h3⟩ := h
  simp only [Value.slice.injEq] at h1
  obtain ⟨rfl, rfl, rfl⟩ := h1
  rcases h2 with rfl | ⟨b, o, h4, _, _, _, h5⟩
  · simp at hj
  · exact ⟨b, o, h4, h5 j x hj, h3 x (List.mem_of_getElem? hj)⟩
theorem fill_set (k m : Nat) : (numL (List.range k) ++ List.replicate (m + 1) (Value.int .i64 0)).set k (.int .i64 (k : Int)) = numL (List.range (k + 1)) ++ List.replicate m (Value.int .i64 0) := by
  rw [List.set_append_right _ _ (by simp [numL])]
  simp [numL, List.range_succ, List.replicate_succ]
theorem RowAt.base {B B' e : Nat} {w : World} {v : Value} {xs : List Value} (h : RowAt B e w v xs) (hb : B' ≤ B) : RowAt B' e w v xs := by
  rcases h with h | ⟨g, o, cap, h1, h2, h3⟩
  · exact .inl h
  · exact .inr ⟨g, o, cap, h1, Nat.le_trans hb h2, h3⟩
theorem Ph3.below {ls lh : List Nat} {B : Nat} {Pr : Nat → Prop} {w w' : World} {R : RingS} {rg N s : Nat} {Vl Vi Vw Vg : Value} {L : List Nat} (h : Ph3 ls lh B Pr w R rg N s Vl Vi Vw Vg L) (hb : Below w.heap.size w w') : Ph3 ls lh B Pr w' R rg N s Vl Vi Vw Vg L :=
  ⟨h.tri.below hb, h.rg_, h.nod, h.len, h.rows, h.past, h.rslen, h.rs⟩
theorem numL_at {L : List Nat} {j k : Nat} (h : L[j]? = some k) : (numL L)[j]? = some (.int .i64 (k : Int)) := by unfold numL; rw [List.getElem?_map, h]; rfl
end Go.Proofs.Ytmjeloinibembaa
