/-
  TWO LISTS of slices of bytes beside a ring.
-/
import Derived.Test.YtmjeloinibembaaStA
import Derived.Test.YtmjeloinibembaaKnA
namespace Go.Proofs.Ytmjeloinibembaa
open Go.RowKit
set_option linter.unusedVariables false
set_option linter.unusedSimpArgs false
theorem RowAt.made {w : World} {v : Value} : RowAt w.heap.size 30 (w.alloc (.cells #[v] 30)) (.slice (some ⟨w.heap.size, 0, none⟩) 1 1) [v] := by
  refine .inr ⟨w.heap.size, 0, 1, rfl, Nat.le_refl _, KindAt.new _ _ _, Thaw.new _ _ _, fun j u hu => ?_, fun j hj => ?_, Nat.le_refl _, by decide⟩
  · rw [World.cell?_alloc_at _ _ _ _ rfl, Nat.zero_add]
    rcases j with _ | j
    · exact hu
    · simp at hu
  · rw [World.cell?_alloc_at _ _ _ _ rfl, Nat.zero_add]
    obtain rfl : j = 0 := by omega
    rfl
structure Two (B : Nat) (Pr : Nat → Prop) (w : World) (R : RingS) (V : Value) (xs : List Value) (cs : List (List Nat)) (U : Value) (us : List Value) (du : List (List Nat)) : Prop where
  ring : RingAt B Pr w R
  row : RowAt B 30 w V xs
  own : ∀ k, V.ownBlock = some k → Pr k
  sl : SlL B Pr w xs cs
  row2 : RowAt B 30 w U us
  own2 : ∀ k, U.ownBlock = some k → Pr k
  sl2 : SlL B Pr w us du
  ne : ∀ k, V.ownBlock = some k → U.ownBlock ≠ some k
theorem Two.swap {B : Nat} {Pr : Nat → Prop} {w : World} {R : RingS} {V U : Value} {xs us : List Value} {cs du : List (List Nat)} (h : Two B Pr w R V xs cs U us du) : Two B Pr w R U us du V xs cs :=
  ⟨h.ring, h.row2, h.own2, h.sl2, h.row, h.own, h.sl, fun k hk hk2 => h.ne k hk2 hk⟩
theorem Two.start {B : Nat} {Pr : Nat → Prop} {w : World} {R : RingS} (h : RingAt B Pr w R) : Two B Pr w R (.slice none 0 0) [] [] (.slice none 0 0) [] [] :=
  ⟨h, RowAt.nil _ _ _, fun k hk => by simp [Value.ownBlock] at hk, SlL.nil _ _ _, RowAt.nil _ _ _, fun k hk => by simp [Value.ownBlock] at hk, SlL.nil _ _ _, fun k hk => by simp [Value.ownBlock] at hk⟩
/-- a ring's call. -/
theorem Two.call {B : Nat} {Pr : Nat → Prop} {w w' : World} {R R' : RingS} {V U : Value} {xs us : List Value} {cs du : List (List Nat)} (h : Two B Pr w R V xs cs U us du) (ho : Only (fun k => ¬ Pr k) w w') (hr : RingAt B Pr w' R') : Two B Pr w' R' V xs cs U us du :=
  ⟨hr, h.row.only ho fun k hk hn => hn (h.own k hk), h.own, h.sl.map fun v l hs => hs.only ho fun k hk => hk, h.row2.only ho fun k hk hn => hn (h.own2 k hk), h.own2, h.sl2.map fun v l hs => hs.only ho fun k hk => hk, h.ne⟩
theorem Two.below {B : Nat} {Pr : Nat → Prop} {w w' : World} {R : RingS} {V U : Value} {xs us : List Value} {cs du : List (List Nat)} (h : Two B Pr w R V xs cs U us du) (hb : Below w.heap.size w w') : Two B Pr w' R V xs cs U us du :=
  h.call (Only.of_below hb) (h.ring.below hb)
/-- something is read. -/
theorem Two.read {B : Nat} {Pr : Nat → Prop} {w w' : World} {R R' : RingS} {V U V2 : Value} {xs us : List Value} {cs du : List (List Nat)} {tk : List Rec} (h : Two B Pr w R V xs cs U us du) (ho : Only (fun k => ¬ Pr k) w w') (hr : RingAt B (Given Pr tk V2) w' R') : Two B (Given Pr tk V2) w' R' V xs cs U us du :=
  ⟨hr, h.row.only ho fun k hk hn => hn (h.own k hk), fun k hk => .inl (h.own k hk), h.sl.map fun v l hs => (hs.only ho fun k hk => hk).mono fun k _ hk => .inl hk, h.row2.only ho fun k hk hn => hn (h.own2 k hk), fun k hk => .inl (h.own2 k hk), h.sl2.map fun v l hs => (hs.only ho fun k hk => hk).mono fun k _ hk => .inl hk, h.ne⟩
/-- more is appended to the first. -/
theorem Two.app {B B2 : Nat} {Pr : Nat → Prop} {w : World} {R : RingS} {V U V2 : Value} {xs us ys : List Value} {cs du ds : List (List Nat)} (h : Two B Pr w R V xs cs U us du) (h2 : RowAt B2 30 w V2 ys) (hs : SlL B Pr w ys ds) (hl : xs.length + ys.length < 2 ^ 40) :
    ∃ (V' : Value) (w' : World) (Pr' : Nat → Prop), (Builtin.append_ #[32, 32] 32 #[V, V2]).run Try.prog w = .ok V' w' ∧ Two B Pr' w' R V' (xs ++ ys) (cs ++ ds) U us du ∧ Below B w w' ∧ ∀ k, Pr k → Pr' k := by
  have hB : B ≤ w.heap.size := by
    rcases Nat.lt_or_ge w.heap.size B with h1 | h1
    · have := h.ring.prlt _ (h.ring.low _ h1); omega
    · exact h1
  obtain ⟨V', w', hap, hrow, hg, hv⟩ := h.row.app (t := 32) h2 hB Try.t30 (.slice none 0 0) 24 Try.underlying32 info30 zero30 size30 bytes30 rfl (by decide) hl hs.cell
  have hO : Only (fun k => V.ownBlock = some k) w w' := (Only.refl _ w).grown hg fun k hk => ⟨fun _ => hk, .inr ⟨30, by decide, (h.row.own hk).1⟩⟩
  have hS : ∀ k, V.ownBlock = some k → B ≤ k ∧ KindAt w k 30 := fun k hk => ⟨(h.row.own hk).2, (h.row.own hk).1⟩
  have hnew : ∀ k, V'.ownBlock = some k → Pr k ∨ w.heap.size ≤ k := fun k hk => by
    rcases hv with h3 | ⟨k', h3, h4⟩
    · exact .inl (h.own k (h3 ▸ hk))
    · rw [h3] at hk; obtain rfl := Option.some.inj hk; exact .inr h4
  have hring : RingAt B (fun k => Pr k ∨ V'.ownBlock = some k) w' R := h.ring.law hO (fun k hk => h.own k hk) (fun k hk => .inl (h.ring.low k hk)) fun k hk => by
    rcases hk with hk | hk
    · exact ⟨Nat.lt_of_lt_of_le (h.ring.prlt k hk) hO.size, .inl hk⟩
    · exact ⟨(hrow.own hk).1.lt, hnew k hk⟩
  have hsl : ∀ v l, SlB B Pr w v l → SlB B (fun k => Pr k ∨ V'.ownBlock = some k) w' v l := fun v l hs => (hs.rows hO (by decide) hS).mono fun k _ hk => .inl hk
  refine ⟨V', w', fun k => Pr k ∨ V'.ownBlock = some k, hap 32, ⟨hring, hrow, fun k hk => .inr hk, (h.sl.map hsl).app (hs.map hsl), h.row2.only hO fun k hk hn => h.ne k hn hk, fun k hk => .inl (h.own2 k hk), h.sl2.map hsl, fun k hk hk2 => ?_⟩, ?_, fun k hk => .inl hk⟩
  · rcases hv with h3 | ⟨k', h3, h4⟩
    · exact h.ne k (h3 ▸ hk) hk2
    · rw [h3] at hk; obtain rfl := Option.some.inj hk
      have := (h.row2.own hk2).1.lt; omega
  · exact hO.belowN hB fun k hk hn => by have := (hS k hn).1; omega
/-- a record's bytes. -/
def Rec.bytes (r : Rec) : List Nat := (List.range r.n).map r.g
theorem Rec.bytes_len (r : Rec) : r.bytes.length = r.n := by simp [Rec.bytes]
/-- what is read. -/
theorem outs_sl {B : Nat} {Pr : Nat → Prop} {w : World} {tk : List Rec} {V : Value} (h : ∀ r ∈ tk, r.st ≠ 0 → Bts w r.bs 0 r.n r.g ∧ KindAt w r.bs 5 ∧ Thaw w r.bs ∧ ¬ Pr r.bs ∧ (1 ≤ r.n ∧ r.n ≤ 4096) ∧ ∀ i, i < r.n → r.g i < 256) :
    SlL B (Given Pr tk V) w (outsOf tk) ((tk.filter fun r => r.st == 1).map Rec.bytes) := by
  refine ⟨by simp [outsOf], fun j v l hv hl => ?_⟩
  unfold outsOf at hv
  rw [List.getElem?_map] at hv hl
  cases hr : (tk.filter fun r => r.st == 1)[j]? with
  | none => rw [hr] at hv; simp at hv
  | some r =>
    rw [hr] at hv hl
    simp only [Option.map_some, Option.some.injEq] at hv hl
    subst hv; subst hl
    obtain ⟨h1, h2⟩ := List.mem_filter.1 (List.mem_of_getElem? hr)
    have h2' : r.st = 1 := by simpa using h2
    obtain ⟨b1, b2, b3, b4, b5, b6⟩ := h r h1 (by omega)
    refine ⟨⟨_, r.n, by unfold Rec.outV; rw [Rec.bytes_len], .inr ⟨r.bs, 0, rfl, .inr (.inl ⟨r, h1, rfl⟩), b2.lt, .inr b2, fun i x hx => ?_⟩⟩, fun x hx => ?_⟩
    · have hi := (List.getElem?_eq_some_iff.1 hx).1
      rw [Rec.bytes_len] at hi
      rw [b1 i hi]
      simp [Rec.bytes, hi] at hx
      rw [← hx]
    · simp only [Rec.bytes, List.mem_map, List.mem_range] at hx
      obtain ⟨i, hi, rfl⟩ := hx
      exact b6 i hi
/-- an argument's bytes. -/
theorem SlB.arg {B : Nat} {Pr : Nat → Prop} {w w' : World} {v : Value} {l : List Nat} (h : SlB w.heap.size (· < w.heap.size) w v l) (hb : Below w.heap.size w w') (hB : w.heap.size ≤ B) (hp : ∀ k, k < B → Pr k) : SlB B Pr w' v l := by
  obtain ⟨⟨a, c, h1, h2⟩, h3⟩ := h
  refine ⟨⟨a, c, h1, h2.imp id ?_⟩, h3⟩
  rintro ⟨b, o, h4, h5, h6, h7, h8⟩
  exact ⟨b, o, h4, hp _ (by omega), Nat.lt_of_lt_of_le h6 hb.size, .inl (by omega), fun i x hx => (hb.cell h6).trans (h8 i x hx)⟩
end Go.Proofs.Ytmjeloinibembaa
