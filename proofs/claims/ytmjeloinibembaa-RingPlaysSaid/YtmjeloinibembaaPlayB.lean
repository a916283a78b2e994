/-
  RingPlays: a step's calls, as the law meets them.
-/
import Derived.Test.YtmjeloinibembaaPlayA
namespace Go.Proofs.Ytmjeloinibembaa
open Go.RowKit
set_option linter.unusedVariables false
set_option linter.unusedSimpArgs false
section
variable {B : Nat} {Pr : Nat → Prop} {w w1 w2 : World} {R R1 : RingS} {Q Q2 : RefS} {rg mb qb nb size k : Nat}
theorem Play.spoil (h : Play B Pr w R Q rg mb qb nb size k) {b : Nat} (ho : Only (· = b) w w1) (hb : Pr b) (hq : ¬ Q.own b) : Play B Pr w1 R Q rg mb qb nb size k :=
  ⟨h.ring.law ho (fun j hj => hj ▸ hb) h.ring.low fun j hj => ⟨Nat.lt_of_lt_of_le (h.ring.prlt j hj) ho.size, .inl hj⟩, h.ref.only ho fun j hj he => hq (he ▸ hj), h.own, h.rows, h.regs, h.rg_, h.mb_, h.sz, h.qb_, h.nb_, h.qsz, h.rs⟩
/-- one more in both. -/
theorem play_more {Pr1 : Nat → Prop} (h : Play B Pr w R Q rg mb qb nb size k) (ho2 : Only Q.own w1 w2) (hr1 : RingAt B Pr1 w1 R1) (hp : ∀ j, Pr j → Pr1 j) (hS : Same R R1) (hq2 : RefAt B w2 Q2) (hown : ∀ j, Q2.own j → Q.own j ∨ w1.heap.size ≤ j) (e1 : Q2.qb = Q.qb) (e2 : Q2.nb = Q.nb) (e3 : Q2.size = Q.size)
    {r : Rec} {q : QR} {x : Rgn} {p : Prt} (a1 : R1.rows = R.rows ++ [r]) (a2 : Q2.recs = Q.recs ++ [q]) (a3 : R1.rs = R.rs ++ [x]) (a4 : Q2.parts = Q.parts ++ [p]) (k1 : keyR r = keyQ q) (k2 : rk x = pk p) : Play B (fun j => Pr1 j ∨ Q2.own j) w2 R1 Q2 rg mb qb nb size (k + 1) :=
  play_step h ho2 hr1 hp hS hq2 hown e1 e2 e3 (by rw [a1, a2, List.map_append, List.map_append, h.rows]; simp [k1]) (by rw [a3, a4, List.map_append, List.map_append, h.regs]; simp [k2]) (by rw [a3, List.length_append]; have := h.rs; simp; omega)
/-- one is ended in both. -/
theorem play_end (h : Play B Pr w R Q rg mb qb nb size k) (ho2 : Only Q.own w1 w2) (hr1 : RingAt B Pr w1 R1) (hS : Same R R1) {j s bs g c : Nat} {r : Rec} {q : QR} {x : Rgn} {p : Prt} (hj : R.rows[j]? = some r) (hq : Q.recs[j]? = some q) (hk : keyR r = keyQ q) (hst : r.st = 0) (hs : s ≠ 0) (hx : R.rs[r.id - 1]? = some x) (hp : Q.parts[r.id - 1]? = some p) (hxp : rk x = pk p) (hxn : x.n = r.n)
    (a1 : R1.rows = R.rows.map (Rec.fin r.id s bs x.f)) (a3 : R1.rs = R.rs.set (r.id - 1) { x with d := true }) (hg : w1.heap.size ≤ g)
    (hq2 : RefAt B w2 { Q with recs := Q.recs.set j { q with st := s, b := .slice (some ⟨g, 0, none⟩) p.n c, bb := g, g := p.f }, parts := Q.parts.set (q.id - 1) { p with live := false } }) :
    ∃ (Pr2 : Nat → Prop) (Q2 : RefS), Play B Pr2 w2 R1 Q2 rg mb qb nb size k ∧ ∀ j, Pr j → Pr2 j := by
  have i1 : r.id = q.id := congrArg (fun t : Nat × Nat × Nat × List Nat => t.1) hk
  have i2 : r.n = q.n := congrArg (fun t : Nat × Nat × Nat × List Nat => t.2.1) hk
  have x1 : x.n = p.n := congrArg (fun t : Nat × Bool × List Nat => t.1) hxp
  have x3 : (List.range x.n).map x.f = (List.range p.n).map p.f := congrArg (fun t : Nat × Bool × List Nat => t.2.2) hxp
  refine ⟨_, _, play_step h ho2 hr1 (fun _ h => h) hS hq2 (fun i hi => ?_) rfl rfl rfl ?_ ?_ (by rw [a3, List.length_set]; exact h.rs), fun j hj => .inl hj⟩
  · rcases hi with hi | hi | hi | hi | ⟨y, hy, hi⟩ | ⟨a, ha, has, hi⟩
    · exact .inl (.inl hi)
    · exact .inl (.inr (.inl hi))
    · exact .inl (.inr (.inr (.inl hi)))
    · exact .inl (.inr (.inr (.inr (.inl hi))))
    · rcases List.mem_or_eq_of_mem_set hy with hy | rfl
      · exact .inl (.inr (.inr (.inr (.inr (.inl ⟨y, hy, hi⟩)))))
      · exact .inl (.inr (.inr (.inr (.inr (.inl ⟨p, List.mem_of_getElem? hp, hi⟩)))))
    · rcases List.mem_or_eq_of_mem_set ha with ha | rfl
      · exact .inl (.inr (.inr (.inr (.inr (.inr ⟨a, ha, has, hi⟩)))))
      · exact .inr (hi ▸ hg)
  · rw [a1]
    refine set_keys h.rows (h.ring.apx.imp fun h => h.2.1) hj rfl ?_
    rw [show r.fin r.id s bs x.f = { r with st := s, bs := bs, g := x.f } from if_pos rfl]
    unfold keyR keyQ
    simp only [if_neg hs]
    unfold Rec.bytes QR.bytes
    simp only
    rw [i1, i2]
    rw [show (List.range q.n).map x.f = (List.range q.n).map p.f by rw [← i2, ← hxn, x3, x1]]
  · show R1.rs.map rk = (Q.parts.set (q.id - 1) { p with live := false }).map pk
    rw [a3, List.map_set, List.map_set, h.regs, i1]
    congr 1
    unfold rk pk
    simp only [Bool.not_false, Prod.mk.injEq, true_and]
    exact ⟨x1, x3⟩
/-- one is set in both. -/
theorem play_set (h : Play B Pr w R Q rg mb qb nb size k) (ho2 : Only Q.own w1 w2) (hr1 : RingAt B Pr w1 R1) (hS : Same R R1) {j m : Nat} {g : Nat → Nat} {x : Rgn} {p : Prt} (hx : R.rs[j]? = some x) (hp : Q.parts[j]? = some p) (hxp : rk x = pk p)
    (a1 : R1.rows = R.rows) (a3 : R1.rs = R.rs.set j { x with f := fun k => if k < m then g k else x.f k })
    (hq2 : RefAt B w2 { Q with parts := Q.parts.set j { p with f := fun k => if k < m then g k else p.f k } }) :
    ∃ (Pr2 : Nat → Prop) (Q2 : RefS), Play B Pr2 w2 R1 Q2 rg mb qb nb size k ∧ ∀ j, Pr j → Pr2 j := by
  have x1 : x.n = p.n := congrArg (fun t : Nat × Bool × List Nat => t.1) hxp
  have x2 : x.d = !p.live := congrArg (fun t : Nat × Bool × List Nat => t.2.1) hxp
  have x3 : (List.range x.n).map x.f = (List.range p.n).map p.f := congrArg (fun t : Nat × Bool × List Nat => t.2.2) hxp
  rw [x1] at x3
  refine ⟨_, _, play_step h ho2 hr1 (fun _ h => h) hS hq2 (fun i hi => ?_) rfl rfl rfl (by rw [a1]; exact h.rows) ?_ (by rw [a3, List.length_set]; exact h.rs), fun j hj => .inl hj⟩
  · rcases hi with hi | hi | hi | hi | ⟨y, hy, hi⟩ | hi
    · exact .inl (.inl hi)
    · exact .inl (.inr (.inl hi))
    · exact .inl (.inr (.inr (.inl hi)))
    · exact .inl (.inr (.inr (.inr (.inl hi))))
    · rcases List.mem_or_eq_of_mem_set hy with hy | rfl
      · exact .inl (.inr (.inr (.inr (.inr (.inl ⟨y, hy, hi⟩)))))
      · exact .inl (.inr (.inr (.inr (.inr (.inl ⟨p, List.mem_of_getElem? hp, hi⟩)))))
    · exact .inl (.inr (.inr (.inr (.inr (.inr hi)))))
  · show R1.rs.map rk = (Q.parts.set j { p with f := fun k => if k < m then g k else p.f k }).map pk
    rw [a3, List.map_set, List.map_set, h.regs]
    congr 1
    unfold rk pk
    simp only [Prod.mk.injEq]
    refine ⟨x1, x2, ?_⟩
    rw [x1]
    refine range_congr fun i hi => ?_
    by_cases him : i < m
    · rw [if_pos him, if_pos him]
    · rw [if_neg him, if_neg him]; exact range_inj x3 i hi
/-- both are read. -/
theorem play_read {Pr1 : Nat → Prop} (h : Play B Pr w R Q rg mb qb nb size k) (hr1 : RingAt B Pr1 w1 R1) (hp : ∀ j, Pr j → Pr1 j) (hS : Same R R1) {tk rest : List Rec} {tq rq : List QR} {rv' : Value} (h7a : R.rows = tk ++ rest) (h7b : ∀ r ∈ tk, r.st ≠ 0) (h7c : ∀ r, rest.head? = some r → r.st = 0) (hrows : R1.rows = rest) (hrs : R1.rs = R.rs)
    (q7a : Q.recs = tq ++ rq) (q7b : ∀ r ∈ tq, r.st ≠ 0) (q7c : ∀ r, rq.head? = some r → r.st = 0) (hq2 : RefAt B w2 { Q with recs := rq, rv := rv' }) (ho2 : Only (· = Q.qb) w1 w2) (hrv : ∀ k, rv'.ownBlock = some k → Q.rv.ownBlock = some k) :
    Play B (fun j => Pr1 j ∨ ({ Q with recs := rq, rv := rv' } : RefS).own j) w2 R1 { Q with recs := rq, rv := rv' } rg mb qb nb size k ∧ tk.map keyR = tq.map keyQ := by
  have hk := h.rows
  rw [h7a, q7a] at hk
  obtain ⟨k1, k2⟩ := read_keys hk h7b h7c q7b q7c
  refine ⟨play_step h (ho2.mono fun j _ hj => .inl hj) hr1 hp hS hq2 (fun i hi => .inl ?_) rfl rfl rfl (by rw [hrows]; exact k2) (by rw [hrs]; exact h.regs) (by rw [hrs]; exact h.rs), k1⟩
  rcases hi with hi | hi | hi | hi | hi | ⟨a, ha, has, hi⟩
  · exact .inl hi
  · exact .inr (.inl hi)
  · exact .inr (.inr (.inl (hrv i hi)))
  · exact .inr (.inr (.inr (.inl hi)))
  · exact .inr (.inr (.inr (.inr (.inl hi))))
  · exact .inr (.inr (.inr (.inr (.inr ⟨a, by rw [q7a]; exact List.mem_append_right _ ha, has, hi⟩))))
end
/-- a step's bytes are copied. -/
theorem clone_any {B : Nat} {Pr : Nat → Prop} {w : World} {sa : Option Addr} {m q : Nat} {l : List Nat} (h : SlB B Pr w (.slice sa m q) l) (hm : m < 2 ^ 30) :
    (m = 0 ∧ ∀ ty, (Builtin.append_ #[30, 30] ty #[.slice none 0 0, .slice sa m q]).run Try.prog w = .ok (.slice none 0 0) w) ∨
    ∃ (c sb so : Nat) (w' : World), 1 ≤ m ∧ sa = some ⟨sb, so, none⟩ ∧ Pr sb ∧ Bts w sb so m (fun i => l.getD i 0) ∧ (∀ i, i < m → l.getD i 0 < 256) ∧ (∀ ty, (Builtin.append_ #[30, 30] ty #[.slice none 0 0, .slice sa m q]).run Try.prog w = .ok (.slice (some ⟨w.heap.size, 0, none⟩) m c) w') ∧ Bts w' w.heap.size 0 m (fun i => l.getD i 0) ∧ KindAt w' w.heap.size 5 ∧ Thaw w' w.heap.size ∧ Below w.heap.size w w' := by
  obtain ⟨⟨a, c, h1, h2⟩, h3⟩ := h
  simp only [Value.slice.injEq] at h1
  obtain ⟨rfl, rfl, rfl⟩ := h1
  by_cases h0 : l = []
  · left
    subst h0
    refine ⟨rfl, fun ty => ?_⟩
    cases sa with
    | none => simp [Builtin.append_, run_underlying Try.underlying30, sizeOf, typeInfo, info5, Builtin.lenOf, Builtin.firstCells]
    | some a =>
      have hf := run_firstCells_some (P := Try.prog) w 1 0 a 0 q [] rfl (by simp)
      simp [Builtin.append_, run_underlying Try.underlying30, sizeOf, typeInfo, info5, size5, Builtin.lenOf, hf]
  · right
    rcases h2 with h2 | ⟨b, o, rfl, h4, h5, h6, h7⟩
    · exact absurd h2 h0
    · have hpos : 1 ≤ l.length := by cases l with | nil => exact absurd rfl h0 | cons a l => simp
      have hb : Bts w b o l.length (fun i => l.getD i 0) := fun i hi => by
        rw [h7 i l[i] (List.getElem?_eq_getElem hi)]
        simp [List.getD, List.getElem?_eq_getElem hi]
      obtain ⟨c, w', a1, a2, a3, a4, a5, a6⟩ := clone_nil w hb (c0 := q) ⟨hpos, hm⟩
      exact ⟨c, b, o, w', hpos, rfl, h4, hb, fun i hi => by
        simp only [List.getD, List.getElem?_eq_getElem hi, Option.getD_some]
        exact h3 _ (List.getElem_mem hi), a1, a3, a4, a5, a6⟩
end Go.Proofs.Ytmjeloinibembaa
