/-
  THE DOCUMENT'S RING: end, Submit, Discard.
-/
import Derived.Test.YtmjeloinibembaaRefE
namespace Go.Proofs.Ytmjeloinibembaa
open Go.RowKit
set_option linter.unusedVariables false
set_option linter.unusedSimpArgs false
/-- a record is done. -/
theorem flatQ_set : ∀ {l : List QR} {k : Nat} {r r' : QR} (j : Nat) (v : Value), l[k]? = some r → j < 4 → r'.cells = r.cells.set j v → (flat l).set (k * 4 + j) v = flat (l.set k r') := flat_set
theorem ref_done {B : Nat} {w w' : World} {Q : RefS} (H : RefAt B w Q) {k : Nat} {r r' : QR} (hr : Q.recs[k]? = some r) (ho : Only (fun k => Q.rv.ownBlock = some k) w w') (hrow : RowQ B w' Q.rv Q.recs.length (flat (Q.recs.set k r'))) (h' : QRAt w' r') (hnew : w.heap.size ≤ r'.bb) : RefAt B w' { Q with recs := Q.recs.set k r' } := by
  have nk : ∀ k e, KindAt w k e → e ≠ 104 → ¬ Q.rv.ownBlock = some k := fun k e hk b h => b (hk.inj (H.row.own h).1)
  have n1 := nk _ _ H.kq (by decide)
  have n2 := nk _ _ H.kn (by decide)
  have c : ∀ j, w'.cell? ⟨Q.qb, j, none⟩ = w.cell? ⟨Q.qb, j, none⟩ := fun j => ho.cell (p := ⟨Q.qb, j, none⟩) H.kq.lt n1
  have hmem : ∀ a ∈ Q.recs.set k r', a ∈ Q.recs ∨ a = r' := fun a ha => List.mem_or_eq_of_mem_set ha
  refine ⟨H.kq.keep ho n1, H.tq.only ho H.kq.lt n1, by rw [c]; exact H.q0, by rw [c]; exact H.q1, by rw [c]; exact H.q2, H.kn.keep ho n2, H.tn.only ho H.kn.lt n2, by rw [ho.cell (p := ⟨Q.nb, 0, none⟩) H.kn.lt n2]; exact H.n0, by rw [List.length_set]; exact hrow, H.prow.only ho fun k hk => nk _ _ (H.prow.own hk).1 (by decide), fun p hp => ?_, fun a ha => ?_, H.app, fun a ha hs p hp => ?_, fun k hk => ?_⟩
  · have hP := H.parts p hp
    exact hP.only ho (nk _ _ hP.kind (by decide)) (nk _ _ hP.kB (by decide))
  · rcases hmem a ha with h | rfl
    · exact (H.recs a h).only ho fun hs => nk _ _ ((H.recs a h).done hs).2.2.1 (by decide)
    · exact h'
  · rcases hmem a ha with h | rfl
    · exact H.apr a h hs p hp
    · have := (H.parts p hp).kB.lt; omega
  · rcases hk with rfl | rfl | hk | hk | ⟨p, hp, hk⟩ | ⟨a, ha, hs, rfl⟩
    · exact H.ge _ (.inl rfl)
    · exact H.ge _ (.inr (.inl rfl))
    · exact H.ge _ (.inr (.inr (.inl hk)))
    · exact H.ge _ (.inr (.inr (.inr (.inl hk))))
    · exact H.ge _ (.inr (.inr (.inr (.inr (.inl ⟨p, hp, hk⟩)))))
    · rcases hmem a ha with h | rfl
      · exact H.ge _ (.inr (.inr (.inr (.inr (.inr ⟨a, h, hs, rfl⟩)))))
      · exact Nat.le_trans H.big hnew
/-- a part is another now. -/
theorem ref_part {B : Nat} {w w' : World} {Q : RefS} (H : RefAt B w Q) {j : Nat} {p p' : Prt} (hp : Q.parts[j]? = some p) (ho : Only (fun k => k = p.pb ∨ k = p.bb) w w') (h' : PartAt w' p') (h1 : p'.pb = p.pb) (h2 : p'.bb = p.bb) : RefAt B w' { Q with parts := Q.parts.set j p' } := by
  have hpm := List.mem_of_getElem? hp
  have hP := H.parts p hpm
  have nk : ∀ k e, KindAt w k e → e ≠ 113 → e ≠ 5 → ¬ (k = p.pb ∨ k = p.bb) := fun k e hk a b h => by
    rcases h with rfl | rfl
    · exact a (hk.inj hP.kind)
    · exact b (hk.inj hP.kB)
  have n1 := nk _ _ H.kq (by decide) (by decide)
  have n2 := nk _ _ H.kn (by decide) (by decide)
  have c : ∀ j, w'.cell? ⟨Q.qb, j, none⟩ = w.cell? ⟨Q.qb, j, none⟩ := fun j => ho.cell (p := ⟨Q.qb, j, none⟩) H.kq.lt n1
  have hl : (Q.parts.set j p').map Prt.ptr = Q.parts.map Prt.ptr := by
    rw [List.map_set]
    refine List.ext_getElem? fun i => ?_
    rw [List.getElem?_set]
    split
    · rename_i h; subst h; rw [List.getElem?_map, hp]; simp [(List.getElem?_eq_some_iff.1 hp).1, Prt.ptr, h1]
    · rfl
  have each : ∀ i y, (Q.parts.set j p')[i]? = some y → (i = j ∧ y = p') ∨ (i ≠ j ∧ Q.parts[i]? = some y) := fun i y h => by
    rw [List.getElem?_set] at h
    split at h
    · rename_i h3
      split at h
      · exact .inl ⟨h3.symm, (Option.some.inj h).symm⟩
      · simp at h
    · rename_i h3; exact .inr ⟨fun e => h3 e.symm, h⟩
  have ne : ∀ i y, i ≠ j → Q.parts[i]? = some y → y.pb ≠ p.pb ∧ y.bb ≠ p.bb := fun i y hi hy => by
    obtain ⟨a1, a2⟩ := List.getElem?_eq_some_iff.1 hy
    obtain ⟨a3, a4⟩ := List.getElem?_eq_some_iff.1 hp
    rcases List.pairwise_iff_getElem.1 H.app with hpw
    rcases Nat.lt_or_gt_of_ne hi with h | h
    · have := hpw i j a1 a3 h; rw [a2, a4] at this; exact this
    · have := hpw j i a3 a1 h; rw [a2, a4] at this; exact ⟨fun e => this.1 e.symm, fun e => this.2 e.symm⟩
  refine ⟨H.kq.keep ho n1, H.tq.only ho H.kq.lt n1, by rw [c]; exact H.q0, by rw [c]; exact H.q1, by rw [c]; exact H.q2, H.kn.keep ho n2, H.tn.only ho H.kn.lt n2, by rw [ho.cell (p := ⟨Q.nb, 0, none⟩) H.kn.lt n2]; exact H.n0, H.row.only ho fun k hk => nk _ _ (H.row.own hk).1 (by decide) (by decide), by rw [hl]; exact H.prow.only ho fun k hk => nk _ _ (H.prow.own hk).1 (by decide) (by decide), fun y hy => ?_, fun a ha => ?_, ?_, fun a ha hs y hy => ?_, fun k hk => ?_⟩
  · obtain ⟨i, hi⟩ := List.getElem?_of_mem hy
    rcases each i y hi with ⟨_, rfl⟩ | ⟨h3, h4⟩
    · exact h'
    · have hY := H.parts y (List.mem_of_getElem? h4)
      refine hY.only ho (fun h => ?_) (fun h => ?_)
      · rcases h with h | h
        · exact (ne i y h3 h4).1 h
        · exact absurd (hY.kind.inj (h ▸ hP.kB)) (by decide)
      · rcases h with h | h
        · exact absurd (hY.kB.inj (h ▸ hP.kind)) (by decide)
        · exact (ne i y h3 h4).2 h
  · refine (H.recs a ha).only ho fun hs h => ?_
    rcases h with h | h
    · exact absurd (((H.recs a ha).done hs).2.2.1.inj (h ▸ hP.kind)) (by decide)
    · exact H.apr a ha hs p hpm h
  · rw [List.pairwise_iff_getElem]
    intro i1 k hi hk hik
    have b1 := each i1 _ (List.getElem?_eq_getElem hi)
    have b2 := each k _ (List.getElem?_eq_getElem hk)
    rcases b1 with ⟨c1, c2⟩ | ⟨c1, c2⟩ <;> rcases b2 with ⟨d1, d2⟩ | ⟨d1, d2⟩
    · omega
    · rw [c2, h1, h2]; have := ne k _ d1 d2; exact ⟨fun e => this.1 e.symm, fun e => this.2 e.symm⟩
    · rw [d2, h1, h2]; exact ne i1 _ c1 c2
    · obtain ⟨h3, h4⟩ := List.getElem?_eq_some_iff.1 c2
      obtain ⟨h5, h6⟩ := List.getElem?_eq_some_iff.1 d2
      rw [← h4, ← h6]
      exact List.pairwise_iff_getElem.1 H.app i1 k h3 h5 hik
  · obtain ⟨i, hi⟩ := List.getElem?_of_mem hy
    rcases each i y hi with ⟨_, rfl⟩ | ⟨_, h4⟩
    · rw [h2]; exact H.apr a ha hs p hpm
    · exact H.apr a ha hs y (List.mem_of_getElem? h4)
  · rcases hk with rfl | rfl | hk | hk | ⟨y, hy, hk⟩ | ⟨a, ha, hs, rfl⟩
    · exact H.ge _ (.inl rfl)
    · exact H.ge _ (.inr (.inl rfl))
    · exact H.ge _ (.inr (.inr (.inl hk)))
    · exact H.ge _ (.inr (.inr (.inr (.inl hk))))
    · obtain ⟨i, hi⟩ := List.getElem?_of_mem hy
      rcases each i y hi with ⟨_, rfl⟩ | ⟨_, h4⟩
      · rw [h1, h2] at hk; exact H.ge _ (.inr (.inr (.inr (.inr (.inl ⟨p, hpm, hk⟩)))))
      · exact H.ge _ (.inr (.inr (.inr (.inr (.inl ⟨y, List.mem_of_getElem? h4, hk⟩)))))
    · exact H.ge _ (.inr (.inr (.inr (.inr (.inr ⟨a, ha, hs, rfl⟩)))))
set_option maxRecDepth 100000 in
set_option maxHeartbeats 2000000 in
theorem f54_none {B : Nat} (w : World) {Q : RefS} (H : Hid (RefAt B w Q)) (hl : Hid (Q.recs.length < 2 ^ 20)) {id : Int} (hno : Hid (∀ r ∈ Q.recs, ¬ ((r.id : Int) = id ∧ r.st = 0))) {s : Int} :
    Calls Try.prog 54 #[.pointer (some ⟨Q.qb, 0, none⟩), .int .i64 id, .int .i64 s] w fun e w' => e = .returned (.int .i64 101) ∧ w = w' := by
  obtain ⟨a, c, hv⟩ := H.out.row.len
  have q2 := H.out.q2
  have hrow := H.out.row
  rw [hv] at q2 hrow
  obtain ⟨n, hn⟩ : ∃ n, Hid (Q.recs.length = n) := ⟨_, Lib.hid rfl⟩
  rw [hn.out] at q2 hrow
  have hrow := Lib.hid hrow
  clear hv
  have hl20 : n < 2 ^ 20 := hn.out ▸ hl.out
  go_enter Try.func54, Try.ntmps54
  go_wp2_with fail
  go_loopg [7, 8, 9] n (fun g i b ok wr => ∃ j : Nat, Hid (g = n - j) ∧ j ≤ n ∧ i = .int .i64 j ∧ Hid (wr = w))
  case atStart => exact ⟨0, Lib.hid rfl, Nat.zero_le _, rfl, Lib.hid rfl⟩
  case round =>
    obtain ⟨j, hg, hj, rfl, hwr⟩ := hrel
    obtain rfl := hwr.out
    by_cases hlt : j < n
    · have hlt' : (j : Int) < (n : Int) := by omega
      obtain ⟨r, hr⟩ : ∃ r, Q.recs[j]? = some r := ⟨_, List.getElem?_eq_getElem (by rw [hn.out]; exact hlt)⟩
      obtain ⟨gq, oq, rfl, -, -, -, -, -, x0, -, x2, -⟩ := recs_at hrow.out hr
      have hnn := hno.out r (List.mem_of_getElem? hr)
      clear hr
      by_cases hid : (r.id : Int) = id
      · have hst : r.st ≠ 0 := fun h => hnn ⟨hid, h⟩
        have e0 : ((r.st : Int) == 0) = false := by simp; exact hst
        clear hnn hst
        rw [hid] at x0
        have hid' := Lib.hid hid
        clear hid
        go_wp2_with fail
        go_roundg (n - (j + 1))
        case measure => rw [hg.out]; omega
        case rel => exact ⟨j + 1, Lib.hid rfl, hlt, by go_num, Lib.hid rfl⟩
      · have e0 : ((r.id : Int) == id) = false := by simp; exact hid
        clear hnn
        go_wp2_with fail
        go_roundg (n - (j + 1))
        case measure => rw [hg.out]; omega
        case rel => exact ⟨j + 1, Lib.hid rfl, hlt, by go_num, Lib.hid rfl⟩
    · have hjn : n = j := by omega
      subst hjn
      go_wp2_with fail
      go_ret
      exact ⟨rfl, rfl⟩
set_option maxRecDepth 100000 in
set_option maxHeartbeats 4000000 in
theorem f54_hit {B : Nat} (w : World) {Q : RefS} (H : Hid (RefAt B w Q)) (hl : Hid (Q.recs.length < 2 ^ 20)) (hlp : Hid (Q.parts.length < 2 ^ 30)) {k : Nat} {r : QR} (hr : Hid (Q.recs[k]? = some r)) (hst : Hid (r.st = 0)) {id : Int} (hid : Hid ((r.id : Int) = id ∧ 1 ≤ r.id)) (hno : Hid (∀ j a, j < k → Q.recs[j]? = some a → ¬ ((a.id : Int) = id ∧ a.st = 0)))
    {p : Prt} (hp : Hid (Q.parts[r.id - 1]? = some p)) (hlv : Hid (p.live = true)) (hpn : Hid (p.n = r.n)) {s : Nat} (hs : Hid (s = 1 ∨ s = 2)) :
    Calls Try.prog 54 #[.pointer (some ⟨Q.qb, 0, none⟩), .int .i64 id, .int .i64 (s : Int)] w fun e w' => e = .returned (.int .i64 0) ∧ Only Q.own w w' ∧ ∃ (g c : Nat), w.heap.size ≤ g ∧
      RefAt B w' { Q with recs := Q.recs.set k { r with st := s, b := .slice (some ⟨g, 0, none⟩) p.n c, bb := g, g := p.f }, parts := Q.parts.set (r.id - 1) { p with live := false } } := by
  obtain ⟨a, c, hv⟩ := H.out.row.len
  have q2 := H.out.q2
  have q1 := H.out.q1
  have hrow := H.out.row
  have hvv := Lib.hid hv
  rw [hv] at q2 hrow
  obtain ⟨n, hn⟩ : ∃ n, Hid (Q.recs.length = n) := ⟨_, Lib.hid rfl⟩
  rw [hn.out] at q2 hrow
  have hrow := Lib.hid hrow
  clear hv
  have hl20 : n < 2 ^ 20 := hn.out ▸ hl.out
  have hkn : k < n := by rw [← hn.out]; exact (List.getElem?_eq_some_iff.1 hr.out).1
  have hkn := Lib.hid hkn
  go_enter Try.func54, Try.ntmps54
  go_wp2_with fail
  go_loopg [7, 8, 9] n (fun g i b ok wr => ∃ j : Nat, Hid (g = n - j) ∧ Hid (j ≤ k) ∧ i = .int .i64 j ∧ Hid (wr = w))
  case atStart => exact ⟨0, Lib.hid rfl, Lib.hid (Nat.zero_le _), rfl, Lib.hid rfl⟩
  case round =>
    obtain ⟨j, hg, hj, rfl, hwr⟩ := hrel
    obtain rfl := hwr.out
    have hlt : j < n := by have := hj.out; have := hkn.out; omega
    have hlt' : (j : Int) < (n : Int) := by omega
    by_cases hjk : j = k
    · subst hjk
      obtain ⟨gq, oq, rfl, -, hnc, hBg, kg, tg, x0, x1, x2, x3⟩ := recs_at hrow.out hr.out
      rw [hid.out.1] at x0
      rw [hst.out] at x2
      clear hlt
      go_wp2_with fail
      refine (f64_ok wr H hlp (i := id) (j := r.id - 1) (p := p) (Lib.hid (by have := hid.out; omega)) hp).mono ?_; rintro e w' ⟨cb, rfl, rfl⟩
      go_wp2_with fail
      refine Reg.start (S := (fun w' => w'.cell? ⟨Q.qb, 2, none⟩ = some (.slice (some ⟨gq, oq, none⟩) n c))) (B := (fun j => [9].contains j)) (by kernel_rfl) ?_
      have hbd : Below wr.heap.size wr wr.drew := (Below.refl _ _).drew
      have H1 := Lib.hid (H.out.below hbd)
      have c0 : wr.drew.cell? ⟨Q.qb, 2, none⟩ = some (.slice (some ⟨gq, oq, none⟩) n c) := q2
      have y3 : wr.drew.cell? ⟨gq, oq + j * 4 + 3, none⟩ = some r.b := x3
      have y2 : wr.drew.cell? ⟨gq, oq + j * 4 + 2, none⟩ = some (.int .i64 0) := x2
      have hbd := Lib.hid hbd
      clear x0 x1 x2 x3 q2
      revert hbd H1 c0 y3 y2
      generalize wr.drew = w1
      intro H1 c0 y3 y2 hbd
      have hP1 := Lib.hid (H1.out.parts p (List.mem_of_getElem? hp.out))
      obtain ⟨c2, w2, hcl, hnc2, hbt2, hk2, ht2, hB2⟩ := clone_nil w1 hP1.out.bts (c0 := cb) (by have := hP1.out.pos; omega)
      have hcl := hcl 30
      obtain ⟨bb, hbb⟩ : ∃ bb, Hid (w1.heap.size = bb) := ⟨_, Lib.hid rfl⟩
      rw [hbb.out] at hcl hbt2 hk2 ht2
      have H2 := Lib.hid (H1.out.below hB2)
      have hbb2 : gq < w1.heap.size := World.block_lt_of_cell? _ _ y3
      have z3' : w2.cell? ⟨gq, oq + j * 4 + 3, none⟩ = some r.b := (hB2.cell (World.block_lt_of_cell? _ _ y3)).trans y3
      have z2' : w2.cell? ⟨gq, oq + j * 4 + 2, none⟩ = some (.int .i64 0) := (hB2.cell (World.block_lt_of_cell? _ _ y2)).trans y2
      have kg2 := (H2.out.row.own (k := gq) (by rw [hvv.out]; rfl)).1
      have tg2 : Thaw w2 gq := by
        have h := H2.out.row
        rw [hvv.out, hn.out] at h
        obtain ⟨g', o', he, _, _, _, _, ht, _⟩ := h.at' (by omega)
        simp only [Option.some.injEq, Addr.mk.injEq, and_true] at he
        obtain ⟨rfl, rfl⟩ := he
        exact ht
      have f3 := tg2 (oq + j * 4 + 3)
      have f2 := tg2 (oq + j * 4 + 2)
      have hqg : Q.qb ≠ gq := fun he => absurd (H2.out.kq.inj (he ▸ kg2)) (by decide)
      have hqg2 : gq ≠ Q.qb := fun he => hqg he.symm
      have hbd2 : Hid (Below wr.heap.size wr w2) := Lib.hid (hbd.out.trans (hB2.mono hbd.out.size))
      have c02 : w2.cell? ⟨Q.qb, 2, none⟩ = some (.slice (some ⟨gq, oq, none⟩) n c) := (hB2.cell (World.block_lt_of_cell? _ _ c0)).trans c0
      have c12 := H2.out.q1
      have hbr : r.b = .slice none 0 0 := (H.out.recs r (List.mem_of_getElem? hr.out)).pend hst.out
      rw [hbr] at z3'
      have hbr := Lib.hid hbr
      refine Reg.take0 (i := 0) (v := ?_) rfl (by kernel_rfl) (by kernel_rfl) (by kernel_rfl) (by kernel_rfl) (fun _ _ _ h => h) (Or.inl ⟨by rfl, ?_⟩) ?_
      rotate_left
      · (intro w _; go_simp; try with_reducible rfl)
      try simp only [Act.put, List.getElem_toArray, List.getElem_cons_succ, List.getElem_cons_zero, List.setIfInBounds_toArray, List.set_cons_zero, List.set_cons_succ]
      refine Reg.take0 (i := 1) (v := ?_) rfl (by kernel_rfl) (by kernel_rfl) (by kernel_rfl) (by kernel_rfl) (fun _ _ _ h => h) (Or.inl ⟨by rfl, ?_⟩) ?_
      rotate_left
      · (intro w _; go_simp; try with_reducible rfl)
      try simp only [Act.put, List.getElem_toArray, List.getElem_cons_succ, List.getElem_cons_zero, List.setIfInBounds_toArray, List.set_cons_zero, List.set_cons_succ]
      refine Reg.take0 (i := 2) (v := ?_) rfl (by kernel_rfl) (by kernel_rfl) (by kernel_rfl) (by kernel_rfl) (fun _ _ _ h => h) (Or.inl ⟨by rfl, ?_⟩) ?_
      rotate_left
      · (intro w _; go_simp; try with_reducible rfl)
      try simp only [Act.put, List.getElem_toArray, List.getElem_cons_succ, List.getElem_cons_zero, List.setIfInBounds_toArray, List.set_cons_zero, List.set_cons_succ]
      refine Reg.take1 (i := 3) (v := ?_) rfl (by kernel_rfl) (by kernel_rfl) (by kernel_rfl) (by kernel_rfl) (by kernel_rfl) (fun _ _ _ h => h) (Or.inl ⟨by rfl, ?_⟩) c0 ?_
      rotate_left
      · (intro w hS; have hs1 := hS; go_simp; try with_reducible rfl)
      try simp only [Act.put, List.getElem_toArray, List.getElem_cons_succ, List.getElem_cons_zero, List.setIfInBounds_toArray, List.set_cons_zero, List.set_cons_succ]
      refine Reg.take0 (i := 4) (v := ?_) rfl (by kernel_rfl) (by kernel_rfl) (by kernel_rfl) (by kernel_rfl) (fun _ _ _ h => h) (Or.inl ⟨by rfl, ?_⟩) ?_
      rotate_left
      · (intro w _; go_simp; try with_reducible rfl)
      try simp only [Act.put, List.getElem_toArray, List.getElem_cons_succ, List.getElem_cons_zero, List.setIfInBounds_toArray, List.set_cons_zero, List.set_cons_succ]
      refine Reg.take0 (i := 5) (v := ?_) rfl (by kernel_rfl) (by kernel_rfl) (by kernel_rfl) (by kernel_rfl) (fun _ _ _ h => h) (Or.inl ⟨by rfl, ?_⟩) ?_
      rotate_left
      · (intro w _; go_simp; try with_reducible rfl)
      try simp only [Act.put, List.getElem_toArray, List.getElem_cons_succ, List.getElem_cons_zero, List.setIfInBounds_toArray, List.set_cons_zero, List.set_cons_succ]
      refine Reg.only (i := 6) (by kernel_rfl) rfl (fun K hK => ?_)
      rw [if_pos (by rfl)]
      refine wp_append_run (.const (.slice none 0 0)) (.tmp 54) 30 rfl _ _ _ rfl rfl hcl ?_
      refine hK _ _ (fun _ hS => (hB2.cell (World.block_lt_of_cell? _ _ hS)).trans hS) ?_
      clear hK K
      try simp only [Act.put, List.getElem_toArray, List.getElem_cons_succ, List.getElem_cons_zero, List.setIfInBounds_toArray, List.set_cons_zero, List.set_cons_succ]
      refine Reg.take0 (i := 7) (v := ?_) rfl (by kernel_rfl) (by kernel_rfl) (by kernel_rfl) (by kernel_rfl) (fun _ _ _ h => h) (Or.inl ⟨by rfl, ?_⟩) ?_
      rotate_left
      · (intro w _; go_simp; try with_reducible rfl)
      try simp only [Act.put, List.getElem_toArray, List.getElem_cons_succ, List.getElem_cons_zero, List.setIfInBounds_toArray, List.set_cons_zero, List.set_cons_succ]
      refine Reg.take0 (i := 8) (v := ?_) rfl (by kernel_rfl) (by kernel_rfl) (by kernel_rfl) (by kernel_rfl) (fun _ _ _ h => h) (Or.inl ⟨by rfl, ?_⟩) ?_
      rotate_left
      · (intro w _; go_simp; try with_reducible rfl)
      try simp only [Act.put, List.getElem_toArray, List.getElem_cons_succ, List.getElem_cons_zero, List.setIfInBounds_toArray, List.set_cons_zero, List.set_cons_succ]
      refine Reg.only (i := 9) (by kernel_rfl) rfl (fun K hK => ?_)
      go_simp
      refine hK _ _ (fun hb => absurd hb (by decide)) ?_
      clear hK K
      try simp only [Act.put, List.getElem_toArray, List.getElem_cons_succ, List.getElem_cons_zero, List.setIfInBounds_toArray, List.set_cons_zero, List.set_cons_succ]
      refine Reg.done (by kernel_rfl) ?_ _
      have hrow2 := H2.out.row
      rw [hvv.out, hn.out] at hrow2
      obtain ⟨SV, hSV⟩ : ∃ SV, Hid (Value.slice (some ⟨bb, 0, none⟩) p.n c2 = SV) := ⟨_, Lib.hid rfl⟩
      have hjlt : j * 4 + 3 < n * 4 := by have := hkn.out; omega
      have r3 := hrow2.set hjlt (.slice (some ⟨bb, 0, none⟩) p.n c2)
      have r4 := r3.set (j := j * 4 + 2) (by omega) (.int .i64 (s : Int))
      rw [flatQ_set (r' := { r with b := .slice (some ⟨bb, 0, none⟩) p.n c2 }) 3 _ hr.out (by decide) rfl, flatQ_set (l := Q.recs.set j { r with b := .slice (some ⟨bb, 0, none⟩) p.n c2 }) (r := { r with b := .slice (some ⟨bb, 0, none⟩) p.n c2 }) (r' := { r with st := s, b := .slice (some ⟨bb, 0, none⟩) p.n c2, bb := bb, g := p.f }) 2 _ (List.getElem?_set_self (List.getElem?_eq_some_iff.1 hr.out).1) (by decide) rfl, List.set_set, ← Nat.add_assoc, ← Nat.add_assoc] at r4
      have hgown : Q.rv.ownBlock = some gq := by rw [hvv.out]; rfl
      have O4 : Only (fun k => Q.rv.ownBlock = some k) w2 ((w2.setCell ⟨gq, oq + j * 4 + 3, none⟩ (.slice (some ⟨bb, 0, none⟩) p.n c2)).setCell ⟨gq, oq + j * 4 + 2, none⟩ (.int .i64 (s : Int))) :=
        Only.setCell (S := fun k => Q.rv.ownBlock = some k) (Only.setCell (S := fun k => Q.rv.ownBlock = some k) (Only.refl _ _) (fun _ => hgown) _) (fun _ => hgown) _
      have hO4 := Lib.hid O4
      have hs0 : s ≠ 0 := by have := hs.out; omega
      have hQR : QRAt ((w2.setCell ⟨gq, oq + j * 4 + 3, none⟩ (.slice (some ⟨bb, 0, none⟩) p.n c2)).setCell ⟨gq, oq + j * 4 + 2, none⟩ (.int .i64 (s : Int))) { r with st := s, b := .slice (some ⟨bb, 0, none⟩) p.n c2, bb := bb, g := p.f } := by
        have hgb : ¬ Q.rv.ownBlock = some bb := fun he => by
          have h1 := (H1.out.row.own he).1.lt
          have h2 := hbb.out; omega
        refine ⟨by show s ≤ 2; have := hs.out; omega, (H.out.recs r (List.mem_of_getElem? hr.out)).pos, fun h => absurd h hs0, fun _ => ⟨⟨c2, by rw [hpn.out]⟩, fun i hi => ?_, hk2.setCell _ _ |>.setCell _ _, fun i hi => hP1.out.byte i (by rw [hpn.out]; exact hi)⟩⟩
        rw [O4.cell (p := ⟨bb, 0 + i, none⟩) hk2.lt hgb]
        exact hbt2 i (by rw [hpn.out]; exact hi)
      have O14 : Only (fun k => Q.rv.ownBlock = some k) w1 ((w2.setCell ⟨gq, oq + j * 4 + 3, none⟩ (.slice (some ⟨bb, 0, none⟩) p.n c2)).setCell ⟨gq, oq + j * 4 + 2, none⟩ (.int .i64 (s : Int))) := (Only.of_below hB2).then O4 fun k _ h => h
      have H4 := ref_done H1.out hr.out O14 (by rw [hvv.out, hn.out]; exact r4) hQR (by show w1.heap.size ≤ bb; exact Nat.le_of_eq hbb.out)
      have c13 : (w2.setCell ⟨gq, oq + j * 4 + 3, none⟩ (.slice (some ⟨bb, 0, none⟩) p.n c2)).cell? ⟨Q.qb, 2, none⟩ = some (.slice (some ⟨gq, oq, none⟩) n c) := (cell_ne _ (.inl hqg2)).trans c02
      have c14 := H4.q1
      simp only at c14
      have z23 : (w2.setCell ⟨gq, oq + j * 4 + 3, none⟩ (.slice (some ⟨bb, 0, none⟩) p.n c2)).cell? ⟨gq, oq + j * 4 + 2, none⟩ = some (.int .i64 0) := (cell_ne _ (.inr (by omega))).trans z2'
      have H4 := Lib.hid H4
      have O4w : Hid (Only Q.own wr ((w2.setCell ⟨gq, oq + j * 4 + 3, none⟩ (.slice (some ⟨bb, 0, none⟩) p.n c2)).setCell ⟨gq, oq + j * 4 + 2, none⟩ (.int .i64 (s : Int)))) := Lib.hid ((Only.of_below hbd.out).then O14 fun k _ h => .inr (.inr (.inl h)))
      have hnew : Hid (wr.heap.size ≤ bb) := Lib.hid (by rw [← hbb.out]; exact hbd.out.size)
      have hP4 := Lib.hid (H4.out.parts p (List.mem_of_getElem? hp.out))
      clear hrow2 r3 r4 hgown O4 O14 hQR hcl hbt2 hk2 ht2 hB2 c0 y3 y2 hbb2 kg2 tg2 z3' q1
      go_wp2_with fail
      refine (f65_ok _ H4 hlp (i := id) (j := r.id - 1) (p := p) (Lib.hid (by have := hid.out; omega)) hp hlv).mono ?_; rintro e w5 ⟨rfl, rfl⟩
      have O5 : Only (fun k => k = p.pb ∨ k = p.bb) ((w2.setCell ⟨gq, oq + j * 4 + 3, none⟩ (.slice (some ⟨bb, 0, none⟩) p.n c2)).setCell ⟨gq, oq + j * 4 + 2, none⟩ (.int .i64 (s : Int))) (((w2.setCell ⟨gq, oq + j * 4 + 3, none⟩ (.slice (some ⟨bb, 0, none⟩) p.n c2)).setCell ⟨gq, oq + j * 4 + 2, none⟩ (.int .i64 (s : Int))).setCell ⟨p.pb, 0, none⟩ (.bool false)) := Only.setCell (S := fun k => k = p.pb ∨ k = p.bb) (Only.refl _ _) (fun _ => .inl rfl) _
      have hP := hP4.out
      have hpm := List.mem_of_getElem? hp.out
      have hpbb : p.bb ≠ p.pb := fun he => absurd (hP.kB.inj (he ▸ hP.kind)) (by decide)
      have hP5 : PartAt (((w2.setCell ⟨gq, oq + j * 4 + 3, none⟩ (.slice (some ⟨bb, 0, none⟩) p.n c2)).setCell ⟨gq, oq + j * 4 + 2, none⟩ (.int .i64 (s : Int))).setCell ⟨p.pb, 0, none⟩ (.bool false)) { p with live := false } :=
        ⟨hP.kind.setCell _ _, hP.thaw.setCell _ _, cell_same _ hP.c0, (cell_ne _ (.inr (by decide))).trans hP.c1, hP.c4.imp fun c h => ⟨h.1, (cell_ne _ (.inr (by decide))).trans h.2⟩, fun i hi => (cell_ne _ (.inl (fun he => hpbb he.symm))).trans (hP.bts i hi), hP.kB.setCell _ _, hP.tB.setCell _ _, hP.byte, hP.pos⟩
      have hF := Lib.hid (ref_part H4.out hp.out O5 hP5 rfl rfl)
      have hOF : Hid (Only Q.own wr (((w2.setCell ⟨gq, oq + j * 4 + 3, none⟩ (.slice (some ⟨bb, 0, none⟩) p.n c2)).setCell ⟨gq, oq + j * 4 + 2, none⟩ (.int .i64 (s : Int))).setCell ⟨p.pb, 0, none⟩ (.bool false))) := Lib.hid (O4w.out.then O5 fun k _ h => .inr (.inr (.inr (.inr (.inl ⟨p, hpm, h⟩)))))
      clear O5 hP hP5 hpbb hpm
      go_wp2_with fail
      go_ret
      exact ⟨rfl, hOF.out, bb, c2, hnew.out, hF.out⟩
    · obtain ⟨a, hr2⟩ : ∃ a, Q.recs[j]? = some a := ⟨_, List.getElem?_eq_getElem (by rw [hn.out]; exact hlt)⟩
      obtain ⟨gq, oq, rfl, -, -, -, -, -, x0, -, x2, -⟩ := recs_at hrow.out hr2
      have hjk' : j < k := by have := hj.out; omega
      have hnn := hno.out j a hjk' hr2
      have hjk2 := Lib.hid hjk'
      clear hr2 hjk'
      by_cases hida : (a.id : Int) = id
      · have hsta : a.st ≠ 0 := fun h => hnn ⟨hida, h⟩
        have e0 : ((a.st : Int) == 0) = false := by simp; exact hsta
        clear hnn hsta
        rw [hida] at x0
        clear hida
        go_wp2_with fail
        go_roundg (n - (j + 1))
        case measure => rw [hg.out]; omega
        case rel => exact ⟨j + 1, Lib.hid rfl, Lib.hid hjk2.out, by go_num, Lib.hid rfl⟩
      · have e0 : ((a.id : Int) == id) = false := by simp; exact hida
        clear hnn
        go_wp2_with fail
        go_roundg (n - (j + 1))
        case measure => rw [hg.out]; omega
        case rel => exact ⟨j + 1, Lib.hid rfl, Lib.hid hjk2.out, by go_num, Lib.hid rfl⟩
end Go.Proofs.Ytmjeloinibembaa
