/-
  A RING beside two lists of slices of bytes and lists of numbers.
-/
import Derived.Test.YtmjeloinibembaaStB
namespace Go.Proofs.Ytmjeloinibembaa
open Go.RowKit
set_option linter.unusedVariables false
set_option linter.unusedSimpArgs false
theorem und37' : Try.prog.underlying 37 = some (.slice 3) := by kernel_rfl
structure Tri (B : Nat) (Pr : Nat → Prop) (w : World) (R : RingS) (V : Value) (cs : List (List Nat)) (U : Value) (du : List (List Nat)) (ints : List (Value × List Value)) : Prop where
  two : ∃ xs us, Two B Pr w R V xs cs U us du
  rows : ∀ p ∈ ints, RowAt B 3 w p.1 p.2 ∧ ∀ k, p.1.ownBlock = some k → Pr k
  ne : ints.Pairwise fun a b => ∀ k, a.1.ownBlock = some k → b.1.ownBlock ≠ some k
section
variable {B : Nat} {Pr : Nat → Prop} {w w' : World} {R R' : RingS} {V U : Value} {cs du : List (List Nat)} {ints : List (Value × List Value)}
theorem Tri.ring (h : Tri B Pr w R V cs U du ints) : RingAt B Pr w R := let ⟨_, _, t⟩ := h.two; t.ring
theorem Tri.big (h : Tri B Pr w R V cs U du ints) : B ≤ w.heap.size := by
  rcases Nat.lt_or_ge w.heap.size B with h1 | h1
  · have := h.ring.prlt _ (h.ring.low _ h1); omega
  · exact h1
theorem Tri.swap (h : Tri B Pr w R V cs U du ints) : Tri B Pr w R U du V cs ints := let ⟨_, _, t⟩ := h.two; ⟨⟨_, _, t.swap⟩, h.rows, h.ne⟩
theorem Tri.call (h : Tri B Pr w R V cs U du ints) (ho : Only (fun k => ¬ Pr k) w w') (hr : RingAt B Pr w' R') : Tri B Pr w' R' V cs U du ints := by
  obtain ⟨_, _, t⟩ := h.two
  exact ⟨⟨_, _, t.call ho hr⟩, fun p hp => ⟨(h.rows p hp).1.only ho fun k hk hn => hn ((h.rows p hp).2 k hk), (h.rows p hp).2⟩, h.ne⟩
theorem Tri.below (h : Tri B Pr w R V cs U du ints) (hb : Below w.heap.size w w') : Tri B Pr w' R V cs U du ints := h.call (Only.of_below hb) (h.ring.below hb)
theorem Tri.read {V2 : Value} {tk : List Rec} (h : Tri B Pr w R V cs U du ints) (ho : Only (fun k => ¬ Pr k) w w') (hr : RingAt B (Given Pr tk V2) w' R') : Tri B (Given Pr tk V2) w' R' V cs U du ints := by
  obtain ⟨_, _, t⟩ := h.two
  exact ⟨⟨_, _, t.read ho hr⟩, fun p hp => ⟨(h.rows p hp).1.only ho fun k hk hn => hn ((h.rows p hp).2 k hk), fun k hk => .inl ((h.rows p hp).2 k hk)⟩, h.ne⟩
/-- a new block of the law's own. -/
theorem Tri.grow (h : Tri B Pr w R V cs U du ints) (hb : Below w.heap.size w w') {b : Nat} (h1 : w.heap.size ≤ b) (h2 : b < w'.heap.size) : Tri B (fun k => Pr k ∨ k = b) w' R V cs U du ints := by
  have h' := h.below hb
  obtain ⟨xs, us, t⟩ := h'.two
  have hr : RingAt B (fun k => Pr k ∨ k = b) w' R := h.ring.law (S := fun _ => False) (Only.of_below hb) (fun _ h => h.elim) (fun k hk => .inl (h.ring.low k hk)) fun k hk => by
    rcases hk with hk | hk
    · exact ⟨Nat.lt_of_lt_of_le (h.ring.prlt k hk) hb.size, .inl hk⟩
    · subst hk; exact ⟨h2, .inr h1⟩
  exact ⟨⟨xs, us, hr, t.row, fun k hk => .inl (t.own k hk), t.sl.map fun v l hs => hs.mono fun k _ hk => .inl hk, t.row2, fun k hk => .inl (t.own2 k hk), t.sl2.map fun v l hs => hs.mono fun k _ hk => .inl hk, t.ne⟩,
    fun p hp => ⟨(h'.rows p hp).1, fun k hk => .inl ((h'.rows p hp).2 k hk)⟩, h'.ne⟩
/-- .. that holds numbers. -/
theorem Tri.add {V0 : Value} {xs0 : List Value} (h : Tri B Pr w R V cs U du ints) (hb : Below w.heap.size w w') {b : Nat} (h1 : w.heap.size ≤ b) (hr : RowAt B 3 w' V0 xs0) (hV : V0.ownBlock = some b) : Tri B (fun k => Pr k ∨ k = b) w' R V cs U du ((V0, xs0) :: ints) := by
  have h2 := h.grow hb h1 (hr.own hV).1.lt
  refine ⟨h2.two, fun p hp => ?_, List.pairwise_cons.2 ⟨fun p hp k hk hk2 => ?_, h2.ne⟩⟩
  · rcases List.mem_cons.1 hp with rfl | hp
    · exact ⟨hr, fun k hk => .inr (Option.some.inj (hk.symm.trans hV))⟩
    · exact h2.rows p hp
  · have h3 : k = b := Option.some.inj (hk.symm.trans hV)
    have := ((h.rows p hp).1.own hk2).1.lt
    omega
/-- more is appended to the first list. -/
theorem Tri.app {B2 : Nat} {V2 : Value} {ys : List Value} {ds : List (List Nat)} (h : Tri B Pr w R V cs U du ints) (h2 : RowAt B2 30 w V2 ys) (hs : SlL B Pr w ys ds) (hl : cs.length + ds.length < 2 ^ 40) :
    ∃ (V' : Value) (w' : World) (Pr' : Nat → Prop), (Builtin.append_ #[32, 32] 32 #[V, V2]).run Try.prog w = .ok V' w' ∧ Tri B Pr' w' R V' (cs ++ ds) U du ints ∧ Below B w w' ∧ (∀ k, Pr k → Pr' k) ∧ Only (fun k => V.ownBlock = some k) w w' := by
  obtain ⟨xs, us, t⟩ := h.two
  have hB := h.big
  obtain ⟨V', w', hap, hrow, hg, hv⟩ := t.row.app (t := 32) h2 hB Try.t30 (.slice none 0 0) 24 Try.underlying32 info30 zero30 size30 bytes30 rfl (by decide) (by rw [t.sl.1, hs.1]; exact hl) hs.cell
  have hO : Only (fun k => V.ownBlock = some k) w w' := (Only.refl _ w).grown hg fun k hk => ⟨fun _ => hk, .inr ⟨30, by decide, (t.row.own hk).1⟩⟩
  obtain ⟨V1, w1, Pr1, a1, a2, a3, a4⟩ := t.app h2 hs (by rw [t.sl.1, hs.1]; exact hl)
  rw [hap 32] at a1
  simp only [Result.ok.injEq] at a1
  obtain ⟨rfl, rfl⟩ := a1
  refine ⟨_, _, Pr1, hap 32, ⟨⟨_, _, a2⟩, fun p hp => ⟨(h.rows p hp).1.only hO fun k hk hn => ?_, fun k hk => a4 k ((h.rows p hp).2 k hk)⟩, h.ne⟩, a3, a4, hO⟩
  exact absurd (((h.rows p hp).1.own hk).1.inj (t.row.own hn).1) (by decide)
/-- more is appended to the first list of numbers. -/
theorem Tri.int {B2 : Nat} {V0 V2 : Value} {xs0 ys : List Value} (h : Tri B Pr w R V cs U du ((V0, xs0) :: ints)) (h2 : RowAt B2 3 w V2 ys) (hy : ∀ u ∈ ys, u.oneCell' = true) (hl : xs0.length + ys.length < 2 ^ 40) :
    ∃ (V' : Value) (w' : World) (Pr' : Nat → Prop), (Builtin.append_ #[37, 37] 37 #[V0, V2]).run Try.prog w = .ok V' w' ∧ Tri B Pr' w' R V cs U du ((V', xs0 ++ ys) :: ints) ∧ Below B w w' ∧ (∀ k, Pr k → Pr' k) ∧ ∀ v l, SlB B Pr w v l → SlB B Pr' w' v l := by
  obtain ⟨xs, us, t⟩ := h.two
  have hB := h.big
  have h0 := h.rows (V0, xs0) (by simp)
  simp only at h0
  obtain ⟨hn0, hn1⟩ := List.pairwise_cons.1 h.ne
  obtain ⟨V', w', hap, hrow, hg, hv⟩ := h0.1.app (t := 37) h2 hB Try.t3 (.int .i64 0) 8 und37' info3 zero3 size3 bytes3 rfl (by decide) hl hy
  have hO : Only (fun k => V0.ownBlock = some k) w w' := (Only.refl _ w).grown hg fun k hk => ⟨fun _ => hk, .inr ⟨3, by decide, (h0.1.own hk).1⟩⟩
  have hS : ∀ k, V0.ownBlock = some k → B ≤ k ∧ KindAt w k 3 := fun k hk => ⟨(h0.1.own hk).2, (h0.1.own hk).1⟩
  have hnew : ∀ k, V'.ownBlock = some k → Pr k ∨ w.heap.size ≤ k := fun k hk => by
    rcases hv with h3 | ⟨k', h3, h4⟩
    · exact .inl (h0.2 k (h3 ▸ hk))
    · rw [h3] at hk; obtain rfl := Option.some.inj hk; exact .inr h4
  have hring : RingAt B (fun k => Pr k ∨ V'.ownBlock = some k) w' R := h.ring.law hO (fun k hk => h0.2 k hk) (fun k hk => .inl (h.ring.low k hk)) fun k hk => by
    rcases hk with hk | hk
    · exact ⟨Nat.lt_of_lt_of_le (h.ring.prlt k hk) hO.size, .inl hk⟩
    · exact ⟨(hrow.own hk).1.lt, hnew k hk⟩
  have hsl : ∀ v l, SlB B Pr w v l → SlB B (fun k => Pr k ∨ V'.ownBlock = some k) w' v l := fun v l hs => (hs.rows hO (by decide) hS).mono fun k _ hk => .inl hk
  refine ⟨V', w', fun k => Pr k ∨ V'.ownBlock = some k, hap 37, ⟨⟨xs, us, hring, t.row.only hO fun k hk hn => absurd ((t.row.own hk).1.inj (hS k hn).2) (by decide), fun k hk => .inl (t.own k hk), t.sl.map hsl, t.row2.only hO fun k hk hn => absurd ((t.row2.own hk).1.inj (hS k hn).2) (by decide), fun k hk => .inl (t.own2 k hk), t.sl2.map hsl, t.ne⟩,
    fun p hp => ?_, List.pairwise_cons.2 ⟨fun p hp k hk hk2 => ?_, hn1⟩⟩, hO.belowN hB fun k hk hn => by have := (hS k hn).1; omega, fun k hk => .inl hk, hsl⟩
  · rcases List.mem_cons.1 hp with rfl | hp
    · exact ⟨hrow, fun k hk => .inr hk⟩
    · have h5 := h.rows p (List.mem_cons_of_mem _ hp)
      exact ⟨h5.1.only hO fun k hk hn => hn0 p hp k hn hk, fun k hk => .inl (h5.2 k hk)⟩
  · have h5 := h.rows p (List.mem_cons_of_mem _ hp)
    rcases hv with h3 | ⟨k', h3, h4⟩
    · exact hn0 p hp k (h3 ▸ hk) hk2
    · rw [h3] at hk; obtain rfl := Option.some.inj hk
      have := (h5.1.own hk2).1.lt; omega
/-- the first list of numbers is cut. -/
theorem Tri.cut {V0 V1 : Value} {xs0 xs1 : List Value} (h : Tri B Pr w R V cs U du ((V0, xs0) :: ints)) (h1 : RowAt B 3 w V1 xs1) (ho : ∀ k, V1.ownBlock = some k → V0.ownBlock = some k) : Tri B Pr w R V cs U du ((V1, xs1) :: ints) := by
  obtain ⟨hn0, hn1⟩ := List.pairwise_cons.1 h.ne
  refine ⟨h.two, fun p hp => ?_, List.pairwise_cons.2 ⟨fun p hp k hk => hn0 p hp k (ho k hk), hn1⟩⟩
  rcases List.mem_cons.1 hp with rfl | hp
  · exact ⟨h1, fun k hk => (h.rows (V0, xs0) (by simp)).2 k (ho k hk)⟩
  · exact h.rows p (List.mem_cons_of_mem _ hp)
end
/-- one number in a new block. -/
theorem RowAt.made3 {w : World} {v : Value} : RowAt w.heap.size 3 (w.alloc (.cells #[v] 3)) (.slice (some ⟨w.heap.size, 0, none⟩) 1 1) [v] := by
  refine .inr ⟨w.heap.size, 0, 1, rfl, Nat.le_refl _, KindAt.new _ _ _, Thaw.new _ _ _, fun j u hu => ?_, fun j hj => ?_, Nat.le_refl _, by decide⟩
  · rw [World.cell?_alloc_at _ _ _ _ rfl, Nat.zero_add]
    rcases j with _ | j
    · exact hu
    · simp at hu
  · rw [World.cell?_alloc_at _ _ _ _ rfl, Nat.zero_add]
    obtain rfl : j = 0 := by omega
    rfl
/-- the part ahead of an index, without spare room. -/
theorem RowAt.ahead {B e : Nat} {w : World} {g o n cap at' : Nat} {xs : List Value} (h : RowAt B e w (.slice (some ⟨g, o, none⟩) n cap) xs) (ha : at' ≤ xs.length) : RowAt B e w (.slice (some ⟨g, o, none⟩) at' at') (xs.take at') := by
  rcases h with ⟨h, _⟩ | ⟨g', o', cap', h, hb, hk, ht, hc, hr, h1, h2⟩
  · simp at h
  · simp only [Value.slice.injEq, Option.some.injEq, Addr.mk.injEq, and_true, true_and] at h
    obtain ⟨⟨rfl, rfl⟩, rfl, rfl⟩ := h
    refine .inr ⟨g, o, at', by simp [Nat.min_eq_left ha], hb, hk, ht, fun j u hu => ?_, fun j hj => hr j (by omega), by simp [Nat.min_eq_left ha], by omega⟩
    have hj : j < at' := by have := (List.getElem?_eq_some_iff.1 hu).1; simp at this; omega
    rw [List.getElem?_take_of_lt hj] at hu
    exact hc j u hu
/-- the part behind. -/
theorem RowAt.behind {B e : Nat} {w : World} {g o n cap k : Nat} {xs : List Value} (h : RowAt B e w (.slice (some ⟨g, o, none⟩) n cap) xs) (ha : k ≤ xs.length) : n = xs.length ∧ n ≤ cap ∧ RowAt B e w (.slice (if cap = k then some ⟨g, o, none⟩ else some ⟨g, o + k, none⟩) (n - k) (cap - k)) (xs.drop k) := by
  rcases h with ⟨h, _⟩ | ⟨g', o', cap', h, hb, hk, ht, hc, hr, h1, h2⟩
  · simp at h
  · simp only [Value.slice.injEq, Option.some.injEq, Addr.mk.injEq, and_true, true_and] at h
    obtain ⟨⟨rfl, rfl⟩, rfl, rfl⟩ := h
    refine ⟨rfl, h1, ?_⟩
    by_cases h3 : cap = k
    · rw [if_pos h3]
      have hx : xs.drop k = [] := List.drop_eq_nil_of_le (by omega)
      rw [hx]
      exact .inr ⟨g, o, cap - k, by simp; omega, hb, hk, ht, fun j u hu => by simp at hu, fun j hj => absurd hj (by omega), by simp, by omega⟩
    · rw [if_neg h3]
      exact .inr ⟨g, o + k, cap - k, by simp, hb, hk, ht, fun j u hu => by rw [List.getElem?_drop] at hu; have := hc (k + j) u hu; rwa [← Nat.add_assoc] at this,
        fun j hj => by have := hr (k + j) (by omega); rwa [← Nat.add_assoc] at this, by simp; omega, by omega⟩
end Go.Proofs.Ytmjeloinibembaa
