/-
  An ARGUMENT of steps, opened: two numbers and a slice of bytes each.
-/
import Derived.Test.YtmjeloinibembaaArgA
import Derived.Test.YtmjeloinibembaaRefI
import Derived.Deep.Strs
namespace Go.Proofs.Ytmjeloinibembaa
open Go.ChangeShapes Go.WideShapes Go.ChangeAt Go.RowKit Go.Deep
set_option linter.unusedVariables false
set_option linter.unusedSimpArgs false
theorem cells52' : Try.prog.cellsOf 52 = 3 := by kernel_rfl
theorem cells3' : Try.prog.cellsOf 3 = 1 := by kernel_rfl
theorem i64_of {z : Int} (h : (Lit.int .i64 z).wf = true) : -(2 ^ 63) ≤ z ∧ z < 2 ^ 63 := by
  simp only [Lit.wf, Bool.and_eq_true, decide_eq_true_eq] at h
  have e1 : IntKind.i64.min = -(2 ^ 63) := rfl
  have e2 : IntKind.i64.max = 2 ^ 63 - 1 := rfl
  omega
/-- one field of bytes. -/
theorem bytes_field {H : Type} {enc : TypeId × Value → H} {W : World} {fuel : Nat} {cs : List Value} {x : DataW H × List MemPlace} (h : DataW.trod enc Try.prog W 0 (fun _ => true) true fuel 30 cs = some x) :
    ∃ a m q l, cs = [.slice a m q] ∧ l.length = m ∧ SlB W.heap.size (· < W.heap.size) W (.slice a m q) l := by
  rcases open_ints Try.underlying30 Try.underlying5 cells5' h with ⟨hcs, _⟩ | ⟨a, len', cap', zs, hcs, _, hl, hm, hz, hx, hcell, hwz⟩
  · exact ⟨none, 0, 0, [], hcs, rfl, ⟨none, 0, rfl, .inl rfl⟩, by simp⟩
  · simp only [if_true] at hz
    refine ⟨_, _, _, (zs.take len').map Int.toNat, hcs, by simp; omega, sl_of hl hz hwz (fun h => by simp at h) fun a' ha c hc => ?_⟩
    obtain rfl := Option.some.inj ha
    exact hcell c (by omega)
set_option maxRecDepth 100000 in
theorem arg_steps {H : Type} {enc : TypeId × Value → H} {W : World} {base : Nat} {v : Value} {d : DataW H} {p : List MemPlace} (hval : Value.okWide Try.prog W .any base 44 v) (h : DataW.Trod enc Try.prog W 0 (fun _ => true) true 44 v d p) :
    ∃ a n c ss, v = .slice a n c ∧ StepsAt W a n ss ∧ n < 2 ^ 63 ∧ ∀ (j : Nat) s, ss[j]? = some s → -(2 ^ 63) ≤ s.n ∧ s.n < 2 ^ 63 := by
  obtain ⟨a0, len, cap, rfl⟩ := okWide_slice Try.underlying44 hval
  obtain ⟨fuel, hf⟩ := h
  rcases open_slice Try.underlying44 hf with ⟨hcs, _⟩ | ⟨a, len', cap', m, n, D, Pl, hcs, _, hl, hm, hmm, hx, hel⟩
  · simp [Value.cells] at hcs
    obtain ⟨rfl, rfl, rfl⟩ := hcs
    exact ⟨none, 0, 0, [], rfl, ⟨rfl, .inl rfl, fun j s h => by simp at h⟩, by decide, fun j s h => by simp at h⟩
  · simp [Value.cells] at hcs
    obtain ⟨rfl, rfl, rfl⟩ := hcs
    simp only [if_true] at hmm
    have each : ∀ i, i < m → ∃ s : Stp, W.cell? (a.add (i * 3)) = some (.int .i64 s.what) ∧ W.cell? (a.add (i * 3 + 1)) = some (.int .i64 s.n) ∧ W.cell? (a.add (i * 3 + 2)) = some (.slice s.a s.m s.q) ∧ (-(2 ^ 63) ≤ s.n ∧ s.n < 2 ^ 63) ∧ s.l.length = s.m ∧ SlB W.heap.size (· < W.heap.size) W (.slice s.a s.m s.q) s.l := by
      intro i hi
      obtain ⟨cs', h1, h2⟩ := hel i hi
      rw [cells52'] at h1
      obtain ⟨_, hlen, hcell⟩ := World.cells?_some h1
      obtain ⟨y0, y1, y2, k, _, _, g0, g1, g2⟩ := trod_struct3 Try.underlying52 h2
      match cs', hlen with
      | [v0, v1, v2], _ =>
        simp [cells3', cells30'] at g0 g1 g2
        have e0 := hcell 0 (by omega)
        have e1 := hcell 1 (by omega)
        have e2 := hcell 2 (by omega)
        rw [add_add] at e0 e1 e2
        obtain ⟨z0, q0, _, w0⟩ := DataW.trod_int Try.underlying3 g0
        obtain ⟨z1, q1, _, w1⟩ := DataW.trod_int Try.underlying3 g1
        obtain ⟨sa, sm, sq, sl, q2, hsl, hS⟩ := bytes_field g2
        simp only [List.cons.injEq, and_true] at q0 q1 q2
        subst q0 q1 q2
        exact ⟨⟨z0, z1, sa, sm, sq, sl⟩, by simpa using e0, by simpa using e1, by simpa using e2, i64_of w1, hsl, hS⟩
    have : Nonempty Stp := ⟨⟨0, 0, none, 0, 0, []⟩⟩
    obtain ⟨q, hq⟩ : ∃ q : Nat → Stp, ∀ i, i < m → W.cell? (a.add (i * 3)) = some (.int .i64 (q i).what) ∧ W.cell? (a.add (i * 3 + 1)) = some (.int .i64 (q i).n) ∧ W.cell? (a.add (i * 3 + 2)) = some (.slice (q i).a (q i).m (q i).q) ∧ (-(2 ^ 63) ≤ (q i).n ∧ (q i).n < 2 ^ 63) ∧ (q i).l.length = (q i).m ∧ SlB W.heap.size (· < W.heap.size) W (.slice (q i).a (q i).m (q i).q) (q i).l :=
      ⟨fun i => if h : i < m then (each i h).choose else ⟨0, 0, none, 0, 0, []⟩, fun i hi => by simp only [hi, dif_pos]; exact (each i hi).choose_spec⟩
    have key : ∀ (j : Nat) s, ((List.range len).map q)[j]? = some s → j < len ∧ s = q j := fun j s h => by
      have hj : j < len := by have := (List.getElem?_eq_some_iff.1 h).1; simpa using this
      simp [hj] at h
      exact ⟨hj, h.symm⟩
    refine ⟨_, _, _, (List.range len).map q, rfl, ⟨by simp, ?_, fun j s h => ?_⟩, by have h0 : maxLen = 2 ^ 63 - 1 := rfl; omega, fun j s h => ?_⟩
    · by_cases h0 : len = 0
      · exact .inl h0
      · right
        have hc0 := (hq 0 (by omega)).1
        obtain ⟨b, o, spot⟩ := a
        have hspot : spot = none := by simpa [Addr.add] using World.cell?_spot hc0
        subst hspot
        refine ⟨b, o, rfl, fun j s h => ?_⟩
        obtain ⟨hj, rfl⟩ := key j s h
        obtain ⟨x0, x1, x2, _⟩ := hq j (by omega)
        rw [addr_add] at x0 x1 x2
        exact ⟨x0, by rw [Nat.add_assoc]; exact x1, by rw [Nat.add_assoc]; exact x2⟩
    · obtain ⟨hj, rfl⟩ := key j s h
      exact (hq j (by omega)).2.2.2.2
    · obtain ⟨hj, rfl⟩ := key j s h
      exact (hq j (by omega)).2.2.2.1
end Go.Proofs.Ytmjeloinibembaa
