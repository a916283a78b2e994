/-
  RINGS: what ends, what is set, what is read: plain facts about what a ring holds.
-/
import Derived.Test.YtmjeloinibembaaRingC
namespace Go.Proofs.Ytmjeloinibembaa
open Go.RowKit
set_option linter.unusedVariables false
set_option linter.unusedSimpArgs false
theorem erase_filter : ∀ (l : List (Nat × Nat × Nat)) (j : Nat) (x : Nat × Nat × Nat), (l.map (·.1)).Nodup → l[j]? = some x → l.eraseIdx j = l.filter fun y => y.1 != x.1
  | [], j, x, _, h => by simp at h
  | y :: l, 0, x, hn, h => by
    simp only [List.getElem?_cons_zero, Option.some.injEq] at h
    subst h
    simp only [List.map_cons, List.nodup_cons, List.mem_map, not_exists, not_and] at hn
    rw [List.eraseIdx_cons_zero, List.filter_cons, if_neg (by simp)]
    refine (List.filter_eq_self.2 fun z hz => ?_).symm
    simp only [bne_iff_ne, ne_eq]
    exact hn.1 z hz
  | y :: l, j + 1, x, hn, h => by
    simp only [List.map_cons, List.nodup_cons, List.mem_map, not_exists, not_and] at hn
    rw [List.getElem?_cons_succ] at h
    have hx : x ∈ l := List.mem_of_getElem? h
    rw [List.eraseIdx_cons_succ, List.filter_cons, if_pos (by simp only [bne_iff_ne, ne_eq]; exact fun e => hn.1 x hx e.symm), erase_filter l j x hn.2 h]
/-- a record's end. -/
def Rec.fin (id s bs : Nat) (g : Nat → Nat) (a : Rec) : Rec := if a.id = id then { a with st := s, bs := bs, g := g } else a
theorem Rec.fin_id (id s bs : Nat) (g : Nat → Nat) (a : Rec) : (a.fin id s bs g).id = a.id := by unfold Rec.fin; split <;> rfl
theorem Rec.fin_xb (id s bs : Nat) (g : Nat → Nat) (a : Rec) : (a.fin id s bs g).xb = a.xb := by unfold Rec.fin; split <;> rfl
theorem Rec.fin_n (id s bs : Nat) (g : Nat → Nat) (a : Rec) : (a.fin id s bs g).n = a.n := by unfold Rec.fin; split <;> rfl
theorem Rec.fin_ptr (id s bs : Nat) (g : Nat → Nat) (a : Rec) : (a.fin id s bs g).ptr = a.ptr := by unfold Rec.ptr; rw [Rec.fin_xb]
theorem fin_filter {id s bs : Nat} {g : Nat → Nat} (hs : s ≠ 0) : ∀ (l : List Rec), ((l.map (Rec.fin id s bs g)).filter fun r => r.st == 0).map (fun r => (r.id, r.xb)) = (((l.filter fun r => r.st == 0).map fun r => (r.id, r.xb)).filter fun y => y.1 != id)
  | [] => rfl
  | a :: l => by
    have ih := fin_filter (id := id) (bs := bs) (g := g) hs l
    by_cases h : a.id = id
    · have e1 : a.fin id s bs g = { a with st := s, bs := bs, g := g } := if_pos h
      rw [List.map_cons, e1, List.filter_cons, if_neg (by simp [hs]), ih]
      by_cases h2 : a.st = 0
      · rw [List.filter_cons, if_pos (by simp [h2]), List.map_cons, List.filter_cons, if_neg (by simp [h])]
      · rw [List.filter_cons, if_neg (by simp [h2])]
    · have e1 : a.fin id s bs g = a := if_neg h
      rw [List.map_cons, e1]
      by_cases h2 : a.st = 0
      · rw [List.filter_cons, if_pos (by simp [h2]), List.filter_cons, if_pos (by simp [h2]), List.map_cons, List.map_cons, ih, List.filter_cons, if_pos (by simp [h])]
      · rw [List.filter_cons, if_neg (by simp [h2]), List.filter_cons, if_neg (by simp [h2]), ih]
theorem RingAt.es_nodup {B : Nat} {Pr : Nat → Prop} {w : World} {R : RingS} (h : RingAt B Pr w R) : (R.es.map (·.1)).Nodup := by
  have h1 : R.es.map (·.1) = (R.es.map fun x => (x.1, x.2.1)).map (·.1) := by rw [List.map_map]; rfl
  rw [h1, h.opens, List.map_map, List.Nodup, List.pairwise_map]
  exact (h.apx.sublist List.filter_sublist).imp fun h => h.2.1
/-- who is pending is in the map of open ones. -/
theorem RingAt.open_of {B : Nat} {Pr : Nat → Prop} {w : World} {R : RingS} (h : RingAt B Pr w R) {r : Rec} (hr : r ∈ R.rows) (hs : r.st = 0) : ∃ c, (r.id, r.xb, c) ∈ R.es := by
  have h1 : (r.id, r.xb) ∈ R.es.map (fun x => (x.1, x.2.1)) := by rw [h.opens]; exact List.mem_map.2 ⟨r, List.mem_filter.2 ⟨hr, by simp [hs]⟩, rfl⟩
  obtain ⟨x, h2, h3⟩ := List.mem_map.1 h1
  obtain ⟨a, b, c⟩ := x
  simp only [Prod.mk.injEq] at h3
  exact ⟨c, by rw [← h3.1, ← h3.2]; exact h2⟩
theorem RingAt.open_none {B : Nat} {Pr : Nat → Prop} {w : World} {R : RingS} (h : RingAt B Pr w R) {id : Int} (hn : ∀ r ∈ R.rows, r.st = 0 → (r.id : Int) ≠ id) : ∀ x ∈ R.es, (x.1 : Int) ≠ id := fun x hx => by
  have h1 : (x.1, x.2.1) ∈ (R.rows.filter fun r => r.st == 0).map fun r => (r.id, r.xb) := by rw [← h.opens]; exact List.mem_map_of_mem hx
  obtain ⟨r, h2, h3⟩ := List.mem_map.1 h1
  obtain ⟨h4, h5⟩ := List.mem_filter.1 h2
  have h6 := hn r h4 (by simpa using h5)
  simp only [Prod.mk.injEq] at h3
  rw [← h3.1]; exact h6
/-- a record's end: what the ring holds then. -/
theorem ring_end {B : Nat} {Pr : Nat → Prop} {w w' : World} {R : RingS} (H : RingAt B Pr w R) {r : Rec} (hr : r ∈ R.rows) (hst : r.st = 0) {x : Rgn} (hx : R.rs[r.id - 1]? = some x) {s : Nat} (hs : s = 1 ∨ s = 2) {j : Nat} {c : Nat} (hj : R.es[j]? = some (r.id, r.xb, c)) {g : Nat}
    (ho : Only (fun k => k = r.xb ∨ k = R.mp ∨ k = x.rb) w w') (hg : w.heap.size ≤ g)
    (x0 : w'.cell? ⟨r.xb, 0, none⟩ = some (.int .i64 (r.id : Int))) (x1 : w'.cell? ⟨r.xb, 1, none⟩ = some (.int .i64 (r.n : Int))) (x2 : w'.cell? ⟨r.xb, 2, none⟩ = some (.int .i64 (s : Int))) (x3 : ∃ c, r.n ≤ c ∧ w'.cell? ⟨r.xb, 3, none⟩ = some (.slice (some ⟨g, 0, none⟩) r.n c))
    (tx : Thaw w' r.xb) (hb : Bts w' g 0 r.n x.f) (kg : KindAt w' g 5) (tg : Thaw w' g) (hX : RegAt w' x.rb x.bb true true x.n x.f)
    (hmap : w'.heap[R.mp]? = some (.map ((R.es.eraseIdx j).map ent).toArray R.clock)) :
    RingAt B Pr w' { R with rows := R.rows.map (Rec.fin r.id s g x.f), rs := R.rs.set (r.id - 1) { x with d := true }, es := R.es.eraseIdx j } := by
  have hxm : x ∈ R.rs := List.mem_of_getElem? hx
  obtain ⟨hX0, hXr, hXb⟩ := H.regs x hxm
  have hX1 : RegAt w x.rb x.bb x.d true x.n x.f := hX0
  have hrec := H.recs r hr
  obtain ⟨hl1, hl2, hl3⟩ := H.link r hr
  obtain ⟨x', hx', hd, hxn⟩ := hl3 hst
  rw [hx] at hx'; obtain rfl := Option.some.inj hx'
  have hs0 : s ≠ 0 := by omega
  have nk : ∀ k e, KindAt w k e → e ≠ 85 → e ≠ 95 → ¬ (k = r.xb ∨ k = R.mp ∨ k = x.rb) := fun k e hk h1 h2 h => by
    rcases h with h | h | h
    · subst h; exact h1 (hk.inj hrec.kind)
    · subst h; exact kind_map hk H.map
    · subst h; exact h2 (hk.inj hX1.kR)
  have same : ∀ a ∈ R.rows, a.id = r.id → a = r := fun a ha he => by
    rcases List.pairwise_iff_getElem.1 H.apx with hp
    obtain ⟨i, hi, rfl⟩ := List.getElem_of_mem ha
    obtain ⟨k, hk, rfl⟩ := List.getElem_of_mem hr
    rcases Nat.lt_trichotomy i k with h | h | h
    · exact absurd he (hp i k hi hk h).2.1
    · subst h; rfl
    · exact absurd he.symm (hp k i hk hi h).2.1
  have xbne : ∀ a ∈ R.rows, a ≠ r → a.xb ≠ r.xb := fun a ha hne he => by
    rcases List.pairwise_iff_getElem.1 H.apx with hp
    obtain ⟨i, hi, rfl⟩ := List.getElem_of_mem ha
    obtain ⟨k, hk, rfl⟩ := List.getElem_of_mem hr
    rcases Nat.lt_trichotomy i k with h | h | h
    · exact (hp i k hi hk h).1 he
    · subst h; exact hne rfl
    · exact (hp k i hk hi h).1 he.symm
  have G : ∀ j, w'.cell? ⟨R.rg, j, none⟩ = w.cell? ⟨R.rg, j, none⟩ := fun j => ho.cell (p := ⟨R.rg, j, none⟩) H.kind.lt (nk _ _ H.kind (by decide) (by decide))
  have hu : usedN (R.rows.map (Rec.fin r.id s g x.f)) = usedN R.rows := by
    unfold usedN; rw [List.map_map]; congr 1; apply List.map_congr_left; intro a _; simp [Rec.fin_n]
  have hl : (R.rs.set (r.id - 1) { x with d := true }).map (fun x => (false, x.rb)) = R.rs.map fun x => (false, x.rb) := by
    rw [List.map_set]
    refine List.ext_getElem? fun i => ?_
    rw [List.getElem?_set]
    split
    · rename_i h; subst h; rw [List.getElem?_map, hx]; simp [(List.getElem?_eq_some_iff.1 hx).1]
    · rfl
  have each : ∀ i y, (R.rs.set (r.id - 1) { x with d := true })[i]? = some y → (i = r.id - 1 ∧ y = { x with d := true }) ∨ (i ≠ r.id - 1 ∧ R.rs[i]? = some y) := fun i y h => by
    rw [List.getElem?_set] at h
    split at h
    · rename_i h2
      split at h
      · exact .inl ⟨h2.symm, (Option.some.inj h).symm⟩
      · simp at h
    · rename_i h2; exact .inr ⟨fun e => h2 e.symm, h⟩
  have rbne : ∀ i y, i ≠ r.id - 1 → R.rs[i]? = some y → y.rb ≠ x.rb ∧ y.bb ≠ x.bb := fun i y hi hy => by
    obtain ⟨h1, h2⟩ := List.getElem?_eq_some_iff.1 hy
    obtain ⟨h3, h4⟩ := List.getElem?_eq_some_iff.1 hx
    rcases List.pairwise_iff_getElem.1 H.apr with hp
    rcases Nat.lt_or_gt_of_ne hi with h | h
    · have := hp i (r.id - 1) h1 h3 h; rw [h2, h4] at this; exact this
    · have := hp (r.id - 1) i h3 h1 h; rw [h2, h4] at this; exact ⟨fun e => this.1 e.symm, fun e => this.2 e.symm⟩
  have hfin : ∀ a ∈ R.rows.map (Rec.fin r.id s g x.f), (a = { r with st := s, bs := g, g := x.f }) ∨ (a ∈ R.rows ∧ a ≠ r ∧ a.id ≠ r.id) := fun a ha => by
    obtain ⟨b, hb, rfl⟩ := List.mem_map.1 ha
    by_cases h : b.id = r.id
    · have := same b hb h; subst this
      exact .inl (if_pos rfl)
    · have e : b.fin r.id s g x.f = b := if_neg h
      rw [e]; exact .inr ⟨hb, fun he => h (by rw [he]), h⟩
  refine ⟨H.low, fun k hk => Nat.lt_of_lt_of_le (H.prlt k hk) ho.size, ho.kind _ _ (by decide) H.kind, H.np, H.thaw.only ho H.kind.lt (nk _ _ H.kind (by decide) (by decide)), (G 0).trans H.c0, by rw [hu]; exact (G 1).trans H.c1, (G 2).trans H.c2, (G 3).trans H.c3, (G 4).trans H.c4, by rw [hu]; exact H.fits,
    ?_, H.prow, fun a ha => ?_, hmap, H.npm, ?_, H.pmem, fun y hy => ?_, ?_, ?_, fun a ha hst2 y hy => ?_, fun a ha => ?_, fun i y hy hd2 => ?_, ?_, fun y hy => H.stamps y (List.mem_of_mem_eraseIdx hy)⟩
  · rw [List.map_map, show R.rows.map (Rec.ptr ∘ Rec.fin r.id s g x.f) = R.rows.map Rec.ptr from List.map_congr_left fun a _ => Rec.fin_ptr _ _ _ _ a]
    exact H.row.only ho fun k hk => nk _ _ (H.row.own hk).1 (by decide) (by decide)
  · rcases hfin a ha with rfl | ⟨h1, h2, h3⟩
    · exact ⟨ho.kind _ _ (by decide) hrec.kind, hrec.np, tx, x0, x1, x2, by obtain ⟨c, _, h⟩ := x3; exact ⟨_, _, _, h⟩, fun _ => ⟨x3, hb, kg, tg, new_np H hg, fun i hi => hX.byte i (by rw [hxn]; exact hi)⟩, hrec.pos, by show s ≤ 2; omega⟩
    · have h4 := H.recs a h1
      refine h4.only ho (fun h => ?_) (fun hsa => nk _ _ (h4.done hsa).2.2.1 (by decide) (by decide))
      rcases h with h | h | h
      · exact xbne a h1 h2 h
      · exact kind_map h4.kind (h ▸ H.map)
      · exact absurd (h4.kind.inj (h ▸ hX1.kR)) (by decide)
  · rw [show RingS.l { R with rows := R.rows.map (Rec.fin r.id s g x.f), rs := R.rs.set (r.id - 1) { x with d := true }, es := R.es.eraseIdx j } = R.l from hl]
    exact H.mem.only ho (nk _ _ H.mem.kind (by decide) (by decide)) fun k hk => nk _ _ (own_kind H.mem.own hk).1 (by decide) (by decide)
  · obtain ⟨i, hi⟩ := List.getElem?_of_mem hy
    rcases each i y hi with ⟨_, rfl⟩ | ⟨h1, h2⟩
    · exact ⟨hX, hXr, hXb⟩
    · obtain ⟨h3, h4, h5⟩ := H.regs y (List.mem_of_getElem? h2)
      refine ⟨h3.only ho (fun h => ?_) (nk _ _ h3.kB (by decide) (by decide)), h4, h5⟩
      rcases h with h | h | h
      · exact absurd (h3.kR.inj (h ▸ hrec.kind)) (by decide)
      · exact kind_map h3.kR (h ▸ H.map)
      · exact (rbne i y h1 h2).1 h
  · rw [List.pairwise_iff_getElem]
    intro i k hi hk hik
    have h1 := each i _ (List.getElem?_eq_getElem hi)
    have h2 := each k _ (List.getElem?_eq_getElem hk)
    rcases h1 with ⟨a1, a2⟩ | ⟨a1, a2⟩ <;> rcases h2 with ⟨b1, b2⟩ | ⟨b1, b2⟩
    · omega
    · rw [a2]; have := rbne k _ b1 b2; exact ⟨fun e => this.1 e.symm, fun e => this.2 e.symm⟩
    · rw [b2]; exact rbne i _ a1 a2
    · obtain ⟨h3, h4⟩ := List.getElem?_eq_some_iff.1 a2
      obtain ⟨h5, h6⟩ := List.getElem?_eq_some_iff.1 b2
      rw [← h4, ← h6]
      exact List.pairwise_iff_getElem.1 H.apr i k h3 h5 hik
  · refine List.pairwise_map.2 (List.Pairwise.imp_of_mem (fun {a b} ha hb hab => ?_) H.apx)
    refine ⟨by rw [Rec.fin_xb, Rec.fin_xb]; exact hab.1, by rw [Rec.fin_id, Rec.fin_id]; exact hab.2.1, ?_⟩
    by_cases h1 : a.id = r.id
    · have h2 : b.id ≠ r.id := fun e => hab.2.1 (h1.trans e.symm)
      rw [show a.fin r.id s g x.f = { a with st := s, bs := g, g := x.f } from if_pos h1, show b.fin r.id s g x.f = b from if_neg h2]
      intro _ h4 h5
      have := ((H.recs b hb).done h4).2.2.1.lt
      simp only at h5; omega
    · rw [show a.fin r.id s g x.f = a from if_neg h1]
      by_cases h2 : b.id = r.id
      · rw [show b.fin r.id s g x.f = { b with st := s, bs := g, g := x.f } from if_pos h2]
        intro h4 _ h5
        have := ((H.recs a ha).done h4).2.2.1.lt
        simp only at h5; omega
      · rw [show b.fin r.id s g x.f = b from if_neg h2]
        exact hab.2.2
  · have hy2 : ∃ z ∈ R.rs, z.bb = y.bb := by
      obtain ⟨i, hi⟩ := List.getElem?_of_mem hy
      rcases each i y hi with ⟨_, rfl⟩ | ⟨_, h2⟩
      · exact ⟨x, hxm, rfl⟩
      · exact ⟨y, List.mem_of_getElem? h2, rfl⟩
    obtain ⟨z, hz, hzy⟩ := hy2
    rcases hfin a ha with rfl | ⟨h1, _, _⟩
    · have := (H.regs z hz).1.lt
      show g ≠ y.bb; omega
    · rw [← hzy]; exact H.apb a h1 hst2 z hz
  · rcases hfin a ha with rfl | ⟨h1, h2, h3⟩
    · exact ⟨hl1, by simp; exact hl2, fun h => absurd h hs0⟩
    · obtain ⟨h4, h5, h6⟩ := H.link a h1
      refine ⟨h4, by simp; exact h5, fun h7 => ?_⟩
      obtain ⟨z, h8, h9⟩ := h6 h7
      exact ⟨z, by rw [List.getElem?_set_ne (by omega)]; exact h8, h9⟩
  · rcases each i y hy with ⟨_, rfl⟩ | ⟨h1, h2⟩
    · exact absurd hd2 (by simp)
    · obtain ⟨a, h3, h4, h5⟩ := H.live i y h2 hd2
      refine ⟨a, List.mem_map.2 ⟨a, h3, if_neg (by omega)⟩, h4, h5⟩
  · show (R.es.eraseIdx j).map _ = _
    rw [fin_filter hs0, ← H.opens, erase_filter _ _ _ H.es_nodup hj, List.filter_map]
    rfl
/-- a region's bytes are written over. -/
theorem ring_set {B : Nat} {Pr : Nat → Prop} {w w' : World} {R : RingS} (H : RingAt B Pr w R) {i : Nat} {x : Rgn} (hx : R.rs[i]? = some x) {f : Nat → Nat} (ho : Only (· = x.bb) w w') (hX : RegAt w' x.rb x.bb x.d true x.n f) : RingAt B Pr w' { R with rs := R.rs.set i { x with f := f } } := by
  have hxm : x ∈ R.rs := List.mem_of_getElem? hx
  obtain ⟨hX1, hXr, hXb⟩ := H.regs x hxm
  have nk : ∀ k e, KindAt w k e → e ≠ 5 → ¬ k = x.bb := fun k e hk h1 h => h1 (hk.inj (h ▸ hX1.kB))
  have nm : ¬ R.mp = x.bb := fun h => kind_map hX1.kB (h ▸ H.map)
  have hl : (R.rs.set i { x with f := f }).map (fun x => (false, x.rb)) = R.rs.map fun x => (false, x.rb) := by
    rw [List.map_set]
    refine List.ext_getElem? fun i' => ?_
    rw [List.getElem?_set]
    split
    · rename_i h; subst h; rw [List.getElem?_map, hx]; simp [(List.getElem?_eq_some_iff.1 hx).1]
    · rfl
  have each : ∀ k y, (R.rs.set i { x with f := f })[k]? = some y → (k = i ∧ y = { x with f := f }) ∨ (k ≠ i ∧ R.rs[k]? = some y) := fun k y h => by
    rw [List.getElem?_set] at h
    split at h
    · rename_i h2
      split at h
      · exact .inl ⟨h2.symm, (Option.some.inj h).symm⟩
      · simp at h
    · rename_i h2; exact .inr ⟨fun e => h2 e.symm, h⟩
  have rbne : ∀ k y, k ≠ i → R.rs[k]? = some y → y.rb ≠ x.rb ∧ y.bb ≠ x.bb := fun k y hi hy => by
    obtain ⟨h1, h2⟩ := List.getElem?_eq_some_iff.1 hy
    obtain ⟨h3, h4⟩ := List.getElem?_eq_some_iff.1 hx
    rcases List.pairwise_iff_getElem.1 H.apr with hp
    rcases Nat.lt_or_gt_of_ne hi with h | h
    · have := hp k i h1 h3 h; rw [h2, h4] at this; exact this
    · have := hp i k h3 h1 h; rw [h2, h4] at this; exact ⟨fun e => this.1 e.symm, fun e => this.2 e.symm⟩
  have G : ∀ j, w'.cell? ⟨R.rg, j, none⟩ = w.cell? ⟨R.rg, j, none⟩ := fun j => ho.cell (p := ⟨R.rg, j, none⟩) H.kind.lt (nk _ _ H.kind (by decide))
  refine ⟨H.low, fun k hk => Nat.lt_of_lt_of_le (H.prlt k hk) ho.size, ho.kind _ _ (by decide) H.kind, H.np, H.thaw.only ho H.kind.lt (nk _ _ H.kind (by decide)), (G 0).trans H.c0, (G 1).trans H.c1, (G 2).trans H.c2, (G 3).trans H.c3, (G 4).trans H.c4, H.fits,
    H.row.only ho fun k hk => nk _ _ (H.row.own hk).1 (by decide), H.prow, fun a ha => ?_, by rw [ho.block _ (Array.getElem?_eq_some_iff.1 H.map).1 nm]; exact H.map, H.npm, ?_, H.pmem, fun y hy => ?_, ?_, H.apx, fun a ha hst2 y hy => ?_, fun a ha => ?_, fun k y hy hd2 => ?_, H.opens, H.stamps⟩
  · exact (H.recs a ha).only ho (nk _ _ (H.recs a ha).kind (by decide)) fun hs => H.apb a ha hs x hxm
  · rw [show RingS.l { R with rs := R.rs.set i { x with f := f } } = R.l from hl]
    exact H.mem.only ho (nk _ _ H.mem.kind (by decide)) fun k hk => nk _ _ (own_kind H.mem.own hk).1 (by decide)
  · obtain ⟨k, hk⟩ := List.getElem?_of_mem hy
    rcases each k y hk with ⟨_, rfl⟩ | ⟨h1, h2⟩
    · exact ⟨hX, hXr, hXb⟩
    · obtain ⟨h3, h4, h5⟩ := H.regs y (List.mem_of_getElem? h2)
      exact ⟨h3.only ho (nk _ _ h3.kR (by decide)) (rbne k y h1 h2).2, h4, h5⟩
  · rw [List.pairwise_iff_getElem]
    intro i1 k hi hk hik
    have h1 := each i1 _ (List.getElem?_eq_getElem hi)
    have h2 := each k _ (List.getElem?_eq_getElem hk)
    rcases h1 with ⟨a1, a2⟩ | ⟨a1, a2⟩ <;> rcases h2 with ⟨b1, b2⟩ | ⟨b1, b2⟩
    · omega
    · rw [a2]; have := rbne k _ b1 b2; exact ⟨fun e => this.1 e.symm, fun e => this.2 e.symm⟩
    · rw [b2]; exact rbne i1 _ a1 a2
    · obtain ⟨h3, h4⟩ := List.getElem?_eq_some_iff.1 a2
      obtain ⟨h5, h6⟩ := List.getElem?_eq_some_iff.1 b2
      rw [← h4, ← h6]
      exact List.pairwise_iff_getElem.1 H.apr i1 k h3 h5 hik
  · have hy2 : ∃ z ∈ R.rs, z.bb = y.bb := by
      obtain ⟨k, hk⟩ := List.getElem?_of_mem hy
      rcases each k y hk with ⟨_, rfl⟩ | ⟨_, h2⟩
      · exact ⟨x, hxm, rfl⟩
      · exact ⟨y, List.mem_of_getElem? h2, rfl⟩
    obtain ⟨z, hz, hzy⟩ := hy2
    rw [← hzy]; exact H.apb a ha hst2 z hz
  · obtain ⟨h4, h5, h6⟩ := H.link a ha
    refine ⟨h4, by simp; exact h5, fun h7 => ?_⟩
    obtain ⟨z, h8, h9, h10⟩ := h6 h7
    by_cases h11 : i = a.id - 1
    · subst h11
      rw [hx] at h8; obtain rfl := Option.some.inj h8
      exact ⟨{ x with f := f }, by rw [List.getElem?_set_self (List.getElem?_eq_some_iff.1 hx).1], h9, h10⟩
    · exact ⟨z, by rw [List.getElem?_set_ne h11]; exact h8, h9, h10⟩
  · rcases each k y hy with ⟨h1, rfl⟩ | ⟨h1, h2⟩
    · subst h1; exact H.live k x hx hd2
    · exact H.live k y h2 hd2
/-- the first record is read: its bytes are the reader's now. -/
theorem ring_read {B : Nat} {Pr : Nat → Prop} {w w' : World} {R : RingS} (H : RingAt B Pr w R) {r : Rec} {rest : List Rec} (hr : R.rows = r :: rest) (hst : r.st ≠ 0) {rv' : Value} (ho : Only (· = R.rg) w w') (tg : Thaw w' R.rg)
    (c0 : w'.cell? ⟨R.rg, 0, none⟩ = some (.int .i64 (R.size : Int))) (c1 : w'.cell? ⟨R.rg, 1, none⟩ = some (.int .i64 (usedN rest : Int))) (c2 : w'.cell? ⟨R.rg, 2, none⟩ = some (.pointer (some ⟨R.mb, 0, none⟩)))
    (c3 : w'.cell? ⟨R.rg, 3, none⟩ = some rv') (c4 : w'.cell? ⟨R.rg, 4, none⟩ = some (.map (some R.mp))) (hrow : RowAt B 86 w rv' (rest.map Rec.ptr)) (hrv : ∀ k, rv'.ownBlock = some k → R.rv.ownBlock = some k) :
    RingAt B (fun k => Pr k ∨ k = r.bs) w' { R with rows := rest, rv := rv' } := by
  have hrm : r ∈ R.rows := by rw [hr]; simp
  have hsub : ∀ a ∈ rest, a ∈ R.rows := fun a ha => by rw [hr]; exact List.mem_cons_of_mem _ ha
  obtain ⟨_, _, hk5, _, _, _⟩ := (H.recs r hrm).done hst
  have nk : ∀ k e, KindAt w k e → e ≠ 80 → ¬ k = R.rg := fun k e hk h1 h => h1 (hk.inj (h ▸ H.kind))
  have n5 : ∀ k e, KindAt w k e → e ≠ 5 → ¬ k = r.bs := fun k e hk h1 h => h1 (hk.inj (h ▸ hk5))
  have hapx := H.apx
  rw [hr] at hapx
  obtain ⟨ap1, ap2⟩ := List.pairwise_cons.1 hapx
  have hf := H.fits
  rw [hr, usedN_cons] at hf
  refine ⟨fun k hk => .inl (H.low k hk), fun k hk => ?_, ho.kind _ _ (by decide) H.kind, fun h => h.elim H.np (n5 _ _ H.kind (by decide)), tg, c0, c1, c2, c3, c4, ⟨by show usedN rest ≤ R.size; omega, hf.2⟩, hrow.only ho fun k hk => nk _ _ (hrow.own hk).1 (by decide), fun k hk h => h.elim (H.prow k (hrv k hk)) (n5 _ _ (H.row.own (hrv k hk)).1 (by decide)),
    fun a ha => ?_, by rw [ho.block _ (Array.getElem?_eq_some_iff.1 H.map).1 (fun h => kind_map H.kind (h ▸ H.map))]; exact H.map, fun h => h.elim H.npm (fun h => kind_map hk5 (h ▸ H.map)), H.mem.only ho (nk _ _ H.mem.kind (by decide)) fun k hk => nk _ _ (own_kind H.mem.own hk).1 (by decide),
    ⟨fun h => h.elim H.pmem.1 (n5 _ _ H.mem.kind (by decide)), fun k hk h => h.elim (H.pmem.2 k hk) (n5 _ _ (own_kind H.mem.own hk).1 (by decide))⟩, fun y hy => ?_, H.apr, ap2, fun a ha => H.apb a (hsub a ha), fun a ha => H.link a (hsub a ha), fun j y hj hd => ?_, ?_, H.stamps⟩
  · rcases hk with hk | hk
    · exact Nat.lt_of_lt_of_le (H.prlt k hk) ho.size
    · subst hk; exact Nat.lt_of_lt_of_le hk5.lt ho.size
  · have h1 := H.recs a (hsub a ha)
    have h2 := h1.only ho (nk _ _ h1.kind (by decide)) fun hs => nk _ _ (h1.done hs).2.2.1 (by decide)
    refine ⟨h2.kind, fun h => h.elim h1.np (n5 _ _ h1.kind (by decide)), h2.thaw, h2.c0, h2.c1, h2.c2, h2.c3, fun hs => ?_, h2.pos, h2.two⟩
    obtain ⟨h3, h4, h5, h6, h7, h8⟩ := h2.done hs
    exact ⟨h3, h4, h5, h6, fun h => h.elim h7 (fun h => (ap1 a ha).2.2 hst hs h.symm), h8⟩
  · obtain ⟨h1, h2, h3⟩ := H.regs y hy
    exact ⟨h1.only ho (nk _ _ h1.kR (by decide)) (nk _ _ h1.kB (by decide)), fun h => h.elim h2 (n5 _ _ h1.kR (by decide)), fun h => h.elim h3 fun h => H.apb r hrm hst y hy h.symm⟩
  · obtain ⟨a, h1, h2, h3⟩ := H.live j y hj hd
    rw [hr] at h1
    rcases List.mem_cons.1 h1 with rfl | h1
    · exact absurd h2 hst
    · exact ⟨a, h1, h2, h3⟩
  · have := H.opens
    rw [hr, List.filter_cons, if_neg (by simp [hst])] at this
    exact this
end Go.Proofs.Ytmjeloinibembaa
