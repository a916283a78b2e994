/-
  RingPlays: the ring and the document's ring tell the same (plain facts).
-/
import Derived.Test.YtmjeloinibembaaRefI
namespace Go.Proofs.Ytmjeloinibembaa
open Go.RowKit
set_option linter.unusedVariables false
set_option linter.unusedSimpArgs false
def QR.bytes (q : QR) : List Nat := (List.range q.n).map q.g
def keyR (r : Rec) : Nat × Nat × Nat × List Nat := (r.id, r.n, r.st, if r.st = 0 then [] else r.bytes)
def keyQ (q : QR) : Nat × Nat × Nat × List Nat := (q.id, q.n, q.st, if q.st = 0 then [] else q.bytes)
def rk (x : Rgn) : Nat × Bool × List Nat := (x.n, x.d, (List.range x.n).map x.f)
def pk (p : Prt) : Nat × Bool × List Nat := (p.n, !p.live, (List.range p.n).map p.f)
structure Play (B : Nat) (Pr : Nat → Prop) (w : World) (R : RingS) (Q : RefS) (rg mb qb nb size k : Nat) : Prop where
  ring : RingAt B Pr w R
  ref : RefAt B w Q
  own : ∀ k, Q.own k → Pr k
  rows : R.rows.map keyR = Q.recs.map keyQ
  regs : R.rs.map rk = Q.parts.map pk
  rg_ : R.rg = rg
  mb_ : R.mb = mb
  sz : R.size = size
  qb_ : Q.qb = qb
  nb_ : Q.nb = nb
  qsz : Q.size = size
  rs : R.rs.length ≤ k
section
variable {B : Nat} {Pr : Nat → Prop} {w w1 w2 : World} {R R1 : RingS} {Q Q2 : RefS} {rg mb qb nb size k : Nat}
theorem Play.len (h : Play B Pr w R Q rg mb qb nb size k) : R.rows.length = Q.recs.length ∧ R.rs.length = Q.parts.length := by
  have h1 := congrArg List.length h.rows
  have h2 := congrArg List.length h.regs
  simp at h1 h2; exact ⟨h1, h2⟩
theorem keys_at {l : List Rec} {m : List QR} (h : l.map keyR = m.map keyQ) {j : Nat} {r : Rec} (hr : l[j]? = some r) : ∃ q, m[j]? = some q ∧ keyR r = keyQ q := by
  have h1 : (l.map keyR)[j]? = some (keyR r) := by rw [List.getElem?_map, hr]; rfl
  rw [h, List.getElem?_map] at h1
  cases hq : m[j]? with
  | none => rw [hq] at h1; simp at h1
  | some q => rw [hq] at h1; simp at h1; exact ⟨q, rfl, h1.symm⟩
theorem keys_at' {l : List Rec} {m : List QR} (h : l.map keyR = m.map keyQ) {j : Nat} {q : QR} (hq : m[j]? = some q) : ∃ r, l[j]? = some r ∧ keyR r = keyQ q := by
  have h1 : (m.map keyQ)[j]? = some (keyQ q) := by rw [List.getElem?_map, hq]; rfl
  rw [← h, List.getElem?_map] at h1
  cases hr : l[j]? with
  | none => rw [hr] at h1; simp at h1
  | some r => rw [hr] at h1; simp at h1; exact ⟨r, rfl, h1⟩
theorem parts_at {l : List Rgn} {m : List Prt} (h : l.map rk = m.map pk) {j : Nat} {x : Rgn} (hx : l[j]? = some x) : ∃ p, m[j]? = some p ∧ rk x = pk p := by
  have h1 : (l.map rk)[j]? = some (rk x) := by rw [List.getElem?_map, hx]; rfl
  rw [h, List.getElem?_map] at h1
  cases hq : m[j]? with
  | none => rw [hq] at h1; simp at h1
  | some q => rw [hq] at h1; simp at h1; exact ⟨q, rfl, h1.symm⟩
theorem used_keys : ∀ {l : List Rec} {m : List QR}, l.map keyR = m.map keyQ → usedN l = usedQ m
  | [], [], _ => rfl
  | [], q :: m, h => by simp at h
  | r :: l, [], h => by simp at h
  | r :: l, q :: m, h => by
    simp only [List.map_cons, List.cons.injEq] at h
    have h1 : r.n = q.n := congrArg (fun t : Nat × Nat × Nat × List Nat => t.2.1) h.1
    rw [usedN_cons, used_keys h.2, h1]; simp [usedQ]
theorem pend_keys : ∀ {l : List Rec} {m : List QR}, l.map keyR = m.map keyQ → pendOf l = pendQ m
  | [], [], _ => rfl
  | [], q :: m, h => by simp at h
  | r :: l, [], h => by simp at h
  | r :: l, q :: m, h => by
    simp only [List.map_cons, List.cons.injEq] at h
    have h1 : r.id = q.id := congrArg (fun t : Nat × Nat × Nat × List Nat => t.1) h.1
    have h2 : r.st = q.st := congrArg (fun t : Nat × Nat × Nat × List Nat => t.2.2.1) h.1
    have ih := pend_keys h.2
    unfold pendOf pendQ at ih ⊢
    by_cases h0 : r.st = 0
    · rw [List.filter_cons, if_pos (by simp [h0]), List.filter_cons, if_pos (by simp [← h2, h0]), List.map_cons, List.map_cons, ih, h1]
    · rw [List.filter_cons, if_neg (by simp [h0]), List.filter_cons, if_neg (by simp [← h2, h0]), ih]
/-- the two step. -/
theorem play_step {Pr1 : Nat → Prop} {k' : Nat} (h : Play B Pr w R Q rg mb qb nb size k) (ho2 : Only Q.own w1 w2) (hr1 : RingAt B Pr1 w1 R1) (hp : ∀ j, Pr j → Pr1 j) (hS : Same R R1) (hq2 : RefAt B w2 Q2) (hown : ∀ j, Q2.own j → Q.own j ∨ w1.heap.size ≤ j) (e1 : Q2.qb = Q.qb) (e2 : Q2.nb = Q.nb) (e3 : Q2.size = Q.size)
    (hrows : R1.rows.map keyR = Q2.recs.map keyQ) (hregs : R1.rs.map rk = Q2.parts.map pk) (hk : R1.rs.length ≤ k') : Play B (fun j => Pr1 j ∨ Q2.own j) w2 R1 Q2 rg mb qb nb size k' := by
  refine ⟨hr1.law ho2 (fun j hj => hp j (h.own j hj)) (fun j hj => .inl (hr1.low j hj)) fun j hj => ?_, hq2, fun j hj => .inr hj, hrows, hregs, hS.1.trans h.rg_, hS.2.2.trans h.mb_, hS.2.1.trans h.sz, e1.trans h.qb_, e2.trans h.nb_, e3.trans h.qsz, hk⟩
  rcases hj with hj | hj
  · exact ⟨Nat.lt_of_lt_of_le (hr1.prlt j hj) ho2.size, .inl hj⟩
  · exact ⟨hq2.lt hj, (hown j hj).imp (fun h1 => hp j (h.own j h1)) id⟩
theorem Play.refAt (h : Play B Pr w R Q rg mb qb nb size k) (ho : Only (fun j => ¬ Pr j) w w1) : RefAt B w1 Q := h.ref.only ho fun j hj hn => hn (h.own j hj)
theorem Play.call (h : Play B Pr w R Q rg mb qb nb size k) (hb : Below w.heap.size w w1) : Play B Pr w1 R Q rg mb qb nb size k :=
  ⟨h.ring.below hb, h.ref.below hb, h.own, h.rows, h.regs, h.rg_, h.mb_, h.sz, h.qb_, h.nb_, h.qsz, h.rs⟩
theorem Play.up {k' : Nat} (h : Play B Pr w R Q rg mb qb nb size k) (hk : k ≤ k') : Play B Pr w R Q rg mb qb nb size k' :=
  ⟨h.ring, h.ref, h.own, h.rows, h.regs, h.rg_, h.mb_, h.sz, h.qb_, h.nb_, h.qsz, Nat.le_trans h.rs hk⟩
theorem Play.big (h : Play B Pr w R Q rg mb qb nb size k) : B ≤ w.heap.size := h.ref.big
theorem Play.recs_le (h : Play B Pr w R Q rg mb qb nb size k) : Q.recs.length ≤ 512 ∧ usedQ Q.recs ≤ 4096 ∧ usedN R.rows = usedQ Q.recs ∧ usedQ Q.recs ≤ size ∧ size ≤ 4096 := by
  have h1 := used_len R.rows
  have h2 := h.ring.fits
  have h3 := h.len.1
  have h4 := used_keys h.rows
  have h5 := h.sz
  omega
theorem Play.ids (h : Play B Pr w R Q rg mb qb nb size k) : ∀ a ∈ Q.recs, a.id ≤ Q.parts.length := fun a ha => by
  obtain ⟨j, hj⟩ := List.getElem?_of_mem ha
  obtain ⟨r, hr, hk⟩ := keys_at' h.rows hj
  have h1 : r.id = a.id := congrArg (fun t : Nat × Nat × Nat × List Nat => t.1) hk
  have := (h.ring.link r (List.mem_of_getElem? hr)).2.1
  have := h.len.2; omega
end
theorem set_keys {id s bs : Nat} {g : Nat → Nat} : ∀ {l : List Rec} {m : List QR} {j : Nat} {r : Rec} {q' : QR}, l.map keyR = m.map keyQ → l.Pairwise (fun a b => a.id ≠ b.id) → l[j]? = some r → r.id = id → keyR (r.fin id s bs g) = keyQ q' → (l.map (Rec.fin id s bs g)).map keyR = (m.set j q').map keyQ
  | [], m, j, r, q', h, hp, hr, hid, hk => by simp at hr
  | a :: l, [], j, r, q', h, hp, hr, hid, hk => by simp at h
  | a :: l, q :: m, 0, r, q', h, hp, hr, hid, hk => by
    simp only [List.getElem?_cons_zero, Option.some.injEq] at hr
    subst hr
    simp only [List.map_cons, List.cons.injEq] at h
    obtain ⟨hp1, hp2⟩ := List.pairwise_cons.1 hp
    rw [List.map_cons, List.map_cons, List.set_cons_zero, List.map_cons, hk, ← h.2]
    congr 2
    exact (List.map_congr_left fun b hb => show b.fin id s bs g = b from if_neg (fun e => hp1 b hb (hid.trans e.symm))).trans (List.map_id _)
  | a :: l, q :: m, j + 1, r, q', h, hp, hr, hid, hk => by
    rw [List.getElem?_cons_succ] at hr
    simp only [List.map_cons, List.cons.injEq] at h
    obtain ⟨hp1, hp2⟩ := List.pairwise_cons.1 hp
    have ha : a.fin id s bs g = a := if_neg fun e => hp1 r (List.mem_of_getElem? hr) (e.trans hid.symm)
    rw [List.map_cons, List.map_cons, List.set_cons_succ, List.map_cons, ha, h.1, set_keys h.2 hp2 hr hid hk]
/-- whose pending one is ended. -/
theorem Play.find {B : Nat} {Pr : Nat → Prop} {w : World} {R : RingS} {Q : RefS} {rg mb qb nb size k : Nat} (h : Play B Pr w R Q rg mb qb nb size k) (id : Int) :
    (∃ (j : Nat) (r : Rec) (q : QR), R.rows[j]? = some r ∧ Q.recs[j]? = some q ∧ keyR r = keyQ q ∧ (r.id : Int) = id ∧ r.st = 0 ∧ ∀ i a, i < j → Q.recs[i]? = some a → ¬ ((a.id : Int) = id ∧ a.st = 0)) ∨
    ((∀ r ∈ R.rows, r.st = 0 → (r.id : Int) ≠ id) ∧ ∀ q ∈ Q.recs, ¬ ((q.id : Int) = id ∧ q.st = 0)) := by
  by_cases hx : ∃ r ∈ R.rows, r.st = 0 ∧ (r.id : Int) = id
  · left
    obtain ⟨r, hr, hs, hi⟩ := hx
    obtain ⟨j, hj⟩ := List.getElem?_of_mem hr
    obtain ⟨q, hq, hk⟩ := keys_at h.rows hj
    refine ⟨j, r, q, hj, hq, hk, hi, hs, fun i a hij ha hc => ?_⟩
    obtain ⟨r2, hr2, hk2⟩ := keys_at' h.rows ha
    have h1 : r2.id = a.id := congrArg (fun t : Nat × Nat × Nat × List Nat => t.1) hk2
    obtain ⟨b1, b2⟩ := List.getElem?_eq_some_iff.1 hr2
    obtain ⟨b3, b4⟩ := List.getElem?_eq_some_iff.1 hj
    have := (List.pairwise_iff_getElem.1 h.ring.apx i j b1 b3 hij).2.1
    rw [b2, b4] at this
    omega
  · right
    refine ⟨fun r hr hs hi => hx ⟨r, hr, hs, hi⟩, fun q hq hc => ?_⟩
    obtain ⟨j, hj⟩ := List.getElem?_of_mem hq
    obtain ⟨r, hr, hk⟩ := keys_at' h.rows hj
    have h1 : r.id = q.id := congrArg (fun t : Nat × Nat × Nat × List Nat => t.1) hk
    have h2 : r.st = q.st := congrArg (fun t : Nat × Nat × Nat × List Nat => t.2.2.1) hk
    exact hx ⟨r, List.mem_of_getElem? hr, by omega, by omega⟩
theorem range_congr {n : Nat} {f g : Nat → Nat} (h : ∀ i, i < n → f i = g i) : (List.range n).map f = (List.range n).map g := List.map_congr_left fun i hi => h i (List.mem_range.1 hi)
theorem range_inj {n : Nat} {f g : Nat → Nat} (h : (List.range n).map f = (List.range n).map g) : ∀ i, i < n → f i = g i := fun i hi => by
  have h1 := congrArg (fun l => l[i]?) h
  simp only [List.getElem?_map, List.getElem?_range hi, Option.map_some, Option.some.injEq] at h1
  exact h1
/-- the same ones are read. -/
theorem read_keys : ∀ {tk rest : List Rec} {tq rq : List QR}, (tk ++ rest).map keyR = (tq ++ rq).map keyQ → (∀ r ∈ tk, r.st ≠ 0) → (∀ r, rest.head? = some r → r.st = 0) → (∀ q ∈ tq, q.st ≠ 0) → (∀ q, rq.head? = some q → q.st = 0) → tk.map keyR = tq.map keyQ ∧ rest.map keyR = rq.map keyQ
  | [], rest, [], rq, h, _, _, _, _ => ⟨rfl, h⟩
  | [], rest, q :: tq, rq, h, _, h2, h3, _ => by
    rcases rest with _ | ⟨r, l⟩
    · simp at h
    · simp only [List.nil_append, List.cons_append, List.map_cons, List.cons.injEq] at h
      have e : r.st = q.st := congrArg (fun t : Nat × Nat × Nat × List Nat => t.2.2.1) h.1
      exact absurd (e ▸ h2 r rfl) (h3 q (by simp))
  | r :: tk, rest, [], rq, h, h1, _, _, h4 => by
    rcases rq with _ | ⟨q, l⟩
    · simp at h
    · simp only [List.nil_append, List.cons_append, List.map_cons, List.cons.injEq] at h
      have e : r.st = q.st := congrArg (fun t : Nat × Nat × Nat × List Nat => t.2.2.1) h.1
      exact absurd (e.trans (h4 q rfl)) (h1 r (by simp))
  | r :: tk, rest, q :: tq, rq, h, h1, h2, h3, h4 => by
    simp only [List.cons_append, List.map_cons, List.cons.injEq] at h
    obtain ⟨a, b⟩ := read_keys h.2 (fun x hx => h1 x (List.mem_cons_of_mem _ hx)) h2 (fun x hx => h3 x (List.mem_cons_of_mem _ hx)) h4
    exact ⟨by rw [List.map_cons, List.map_cons, h.1, a], b⟩
theorem cont_keys : ∀ {tk : List Rec} {tq : List QR}, tk.map keyR = tq.map keyQ → (tk.filter fun r => r.st == 1).map Rec.bytes = (tq.filter fun q => q.st == 1).map QR.bytes
  | [], [], _ => rfl
  | [], q :: m, h => by simp at h
  | r :: l, [], h => by simp at h
  | r :: l, q :: m, h => by
    simp only [List.map_cons, List.cons.injEq] at h
    have h2 : r.st = q.st := congrArg (fun t : Nat × Nat × Nat × List Nat => t.2.2.1) h.1
    have h3 : (if r.st = 0 then [] else r.bytes) = (if q.st = 0 then [] else q.bytes) := congrArg (fun t : Nat × Nat × Nat × List Nat => t.2.2.2) h.1
    have ih := cont_keys h.2
    by_cases h0 : r.st = 1
    · rw [List.filter_cons, if_pos (by simp [h0]), List.filter_cons, if_pos (by simp [← h2, h0]), List.map_cons, List.map_cons, ih]
      rw [if_neg (by omega), if_neg (by omega)] at h3
      rw [h3]
    · rw [List.filter_cons, if_neg (by simp [h0]), List.filter_cons, if_neg (by simp [← h2, h0]), ih]
/-- the document's slices. -/
theorem outsQ_sl {B : Nat} {w : World} {tq : List QR} (h : ∀ q ∈ tq, QRAt w q) : SlL B (fun _ => True) w (outsQ tq) ((tq.filter fun q => q.st == 1).map QR.bytes) := by
  refine ⟨by simp [outsQ], fun j v l hv hl => ?_⟩
  unfold outsQ at hv
  rw [List.getElem?_map] at hv hl
  cases hr : (tq.filter fun r => r.st == 1)[j]? with
  | none => rw [hr] at hv; simp at hv
  | some q =>
    rw [hr] at hv hl
    simp only [Option.map_some, Option.some.injEq] at hv hl
    subst hv; subst hl
    obtain ⟨h1, h2⟩ := List.mem_filter.1 (List.mem_of_getElem? hr)
    have h2' : q.st = 1 := by simpa using h2
    obtain ⟨⟨c, b1⟩, b2, b3, b4⟩ := (h q h1).done (by omega)
    have hlen : q.bytes.length = q.n := by simp [QR.bytes]
    refine ⟨⟨_, c, by rw [b1, hlen], .inr ⟨q.bb, 0, rfl, trivial, b3.lt, .inr b3, fun i x hx => ?_⟩⟩, fun x hx => ?_⟩
    · have hi := (List.getElem?_eq_some_iff.1 hx).1
      rw [hlen] at hi
      rw [b2 i hi]
      simp [QR.bytes, hi] at hx
      rw [← hx]
    · simp only [QR.bytes, List.mem_map, List.mem_range] at hx
      obtain ⟨i, hi, rfl⟩ := hx
      exact b4 i hi
end Go.Proofs.Ytmjeloinibembaa
