/-
  THE DOCUMENT'S RING: Reserve.
-/
import Derived.Test.YtmjeloinibembaaRefD
namespace Go.Proofs.Ytmjeloinibembaa
open Go.RowKit
set_option linter.unusedVariables false
set_option linter.unusedSimpArgs false
/-- another row of records, one more or as many less. -/
theorem ref_rec {B : Nat} {w w' : World} {Q : RefS} (H : RefAt B w Q) {l : List QR} {rv' : Value} (ho : Only (fun k => k = Q.qb ∨ Q.rv.ownBlock = some k) w w') (tq : Thaw w' Q.qb) (kq : KindAt w' Q.qb 102) (q0 : w'.cell? ⟨Q.qb, 0, none⟩ = some (.int .i64 (Q.size : Int))) (q1 : w'.cell? ⟨Q.qb, 1, none⟩ = some (.pointer (some ⟨Q.nb, 0, none⟩))) (q2 : w'.cell? ⟨Q.qb, 2, none⟩ = some rv')
    (hr : RowQ B w' rv' l.length (flat l)) (hl : ∀ r ∈ l, r ∈ Q.recs ∨ (r.st = 0 ∧ QRAt w' r)) : RefAt B w' { Q with recs := l, rv := rv' } := by
  have nk : ∀ k e, KindAt w k e → e ≠ 102 → e ≠ 104 → ¬ (k = Q.qb ∨ Q.rv.ownBlock = some k) := fun k e hk a b h => by
    rcases h with rfl | h
    · exact a (hk.inj H.kq)
    · exact b (hk.inj (H.row.own h).1)
  have n2 := nk _ _ H.kn (by decide) (by decide)
  refine ⟨kq, tq, q0, q1, q2, H.kn.keep ho n2, H.tn.only ho H.kn.lt n2, by rw [ho.cell (p := ⟨Q.nb, 0, none⟩) H.kn.lt n2]; exact H.n0, hr, H.prow.only ho fun k hk => nk _ _ (H.prow.own hk).1 (by decide) (by decide), fun p hp => ?_, fun r hr => ?_, H.app, fun r hr hs p hp => ?_, fun k hk => ?_⟩
  · have hP := H.parts p hp
    exact hP.only ho (nk _ _ hP.kind (by decide) (by decide)) (nk _ _ hP.kB (by decide) (by decide))
  · rcases hl r hr with h | h
    · exact (H.recs r h).only ho fun hs => nk _ _ ((H.recs r h).done hs).2.2.1 (by decide) (by decide)
    · exact h.2
  · rcases hl r hr with h | h
    · exact H.apr r h hs p hp
    · exact absurd h.1 hs
  · rcases hk with rfl | rfl | hk | hk | ⟨p, hp, hk⟩ | ⟨r, hr', hs, rfl⟩
    · exact H.ge _ (.inl rfl)
    · exact H.ge _ (.inr (.inl rfl))
    · exact (hr.own hk).2
    · exact H.ge _ (.inr (.inr (.inr (.inl hk))))
    · exact H.ge _ (.inr (.inr (.inr (.inr (.inl ⟨p, hp, hk⟩)))))
    · rcases hl r hr' with h | h
      · exact H.ge _ (.inr (.inr (.inr (.inr (.inr ⟨r, h, hs, rfl⟩)))))
      · exact absurd h.1 hs
theorem RefAt.big {B : Nat} {w : World} {Q : RefS} (h : RefAt B w Q) : B ≤ w.heap.size := Nat.le_trans (h.ge _ (.inl rfl)) (Nat.le_of_lt (h.lt (.inl rfl)))
set_option maxRecDepth 100000 in
set_option maxHeartbeats 1000000 in
theorem f27_bad (w : World) {qb : Nat} {n : Int} (hn : Hid (n < 1 ∨ 4096 < n)) : Calls Try.prog 27 #[.pointer (some ⟨qb, 0, none⟩), .int .i64 n] w fun e w' => e = .returned (.tuple #[.int .i64 0, .int .i64 100]) ∧ w = w' := by
  rcases hn.out with h | h
  · go_enter Try.func27, Try.ntmps27
    go_wp2_with fail
    go_returns
    exact ⟨rfl, rfl⟩
  · have h2 : ¬ n < 1 := by omega
    go_enter Try.func27, Try.ntmps27
    go_wp2_with fail
    go_returns
    exact ⟨rfl, rfl⟩
set_option maxRecDepth 100000 in
set_option maxHeartbeats 2000000 in
theorem f27_full {B : Nat} (w : World) {Q : RefS} (H : Hid (RefAt B w Q)) (hlr : Hid (Q.recs.length < 2 ^ 20)) (hus : Hid (usedQ Q.recs ≤ 4096)) {n : Nat} (hn : Hid (1 ≤ n ∧ n ≤ 4096)) (hl : Hid (Q.size < usedQ Q.recs + takesN n)) :
    Calls Try.prog 27 #[.pointer (some ⟨Q.qb, 0, none⟩), .int .i64 n] w fun e w' => e = .returned (.tuple #[.int .i64 0, .int .i64 102]) ∧ Below w.heap.size w w' := by
  obtain ⟨u, hu⟩ : ∃ u, Hid (usedQ Q.recs = u) := ⟨_, Lib.hid rfl⟩
  obtain ⟨m, hm⟩ : ∃ m, Hid (u + takesN n = m) := ⟨_, Lib.hid rfl⟩
  have e1 : ¬ (n : Int) < 1 := by have := hn.out; omega
  have e2 : ¬ (4096 < (n : Int)) := by have := hn.out; omega
  have hn4 := Lib.hid hn.out.2
  have htk : takesN n ≤ 4104 + 7 := by have := hn.out; unfold takesN; omega
  have e3 : IntKind.i64.wrap ((u : Int) + (takesN n : Int)) = (m : Int) := by rw [IntKind.wrap_i64]; have := hm.out; have := hus.out; have := hu.out; omega
  have e4 : Hid (Q.size < m) := Lib.hid (by have := hu.out; have := hm.out; have := hl.out; omega)
  clear htk
  go_enter Try.func27, Try.ntmps27
  go_wp2_with fail
  refine Reg.start (S := (fun w' => w'.cell? ⟨Q.qb, 0, none⟩ = some (.int .i64 (Q.size : Int)))) (B := (fun _ => false)) (by kernel_rfl) ?_
  have hbd : Below w.heap.size w w.drew := (Below.refl _ _).drew
  have H1 := Lib.hid (H.out.below hbd)
  have c0 := H1.out.q0
  revert hbd H1 c0
  generalize w.drew = w1
  intro hbd H1 c0
  refine Reg.take0 (i := 0) (v := ?_) rfl (by kernel_rfl) (by kernel_rfl) (by kernel_rfl) (by kernel_rfl) (fun _ _ _ h => h) (Or.inl ⟨by rfl, ?_⟩) ?_
  rotate_left
  · (intro w _; go_simp; try with_reducible rfl)
  try simp only [Act.put, List.getElem_toArray, List.getElem_cons_succ, List.getElem_cons_zero, List.setIfInBounds_toArray, List.set_cons_zero, List.set_cons_succ]
  refine Reg.take0 (i := 2) (v := ?_) rfl (by kernel_rfl) (by kernel_rfl) (by kernel_rfl) (by kernel_rfl) (fun _ _ _ h => h) (Or.inl ⟨by rfl, ?_⟩) ?_
  rotate_left
  · (intro w _; go_simp; try with_reducible rfl)
  try simp only [Act.put, List.getElem_toArray, List.getElem_cons_succ, List.getElem_cons_zero, List.setIfInBounds_toArray, List.set_cons_zero, List.set_cons_succ]
  refine Reg.take0 (i := 5) (v := ?_) rfl (by kernel_rfl) (by kernel_rfl) (by kernel_rfl) (by kernel_rfl) (fun _ _ _ h => h) (Or.inl ⟨by rfl, ?_⟩) ?_
  rotate_left
  · (intro w _; go_simp; try with_reducible rfl)
  try simp only [Act.put, List.getElem_toArray, List.getElem_cons_succ, List.getElem_cons_zero, List.setIfInBounds_toArray, List.set_cons_zero, List.set_cons_succ]
  refine Reg.take0 (i := 6) (v := ?_) rfl (by kernel_rfl) (by kernel_rfl) (by kernel_rfl) (by kernel_rfl) (fun _ _ _ h => h) (Or.inl ⟨by rfl, ?_⟩) ?_
  rotate_left
  · (intro w _; go_simp; try with_reducible rfl)
  try simp only [Act.put, List.getElem_toArray, List.getElem_cons_succ, List.getElem_cons_zero, List.setIfInBounds_toArray, List.set_cons_zero, List.set_cons_succ]
  refine Reg.take0 (i := 7) (v := ?_) rfl (by kernel_rfl) (by kernel_rfl) (by kernel_rfl) (by kernel_rfl) (fun _ _ _ h => h) (Or.inl ⟨by rfl, ?_⟩) ?_
  rotate_left
  · (intro w _; go_simp; try with_reducible rfl)
  try simp only [Act.put, List.getElem_toArray, List.getElem_cons_succ, List.getElem_cons_zero, List.setIfInBounds_toArray, List.set_cons_zero, List.set_cons_succ]
  refine Reg.take1 (i := 8) (v := ?_) rfl (by kernel_rfl) (by kernel_rfl) (by kernel_rfl) (by kernel_rfl) (by kernel_rfl) (fun _ _ _ h => h) (Or.inl ⟨by rfl, ?_⟩) c0 ?_
  rotate_left
  · (intro w hS; have hs1 := hS; go_simp; try with_reducible rfl)
  try simp only [Act.put, List.getElem_toArray, List.getElem_cons_succ, List.getElem_cons_zero, List.setIfInBounds_toArray, List.set_cons_zero, List.set_cons_succ]
  refine Reg.only (i := 1) (by kernel_rfl) rfl (fun K hK => ?_)
  go_simp
  refine (f34_ok w1 H1 hlr (Lib.hid (by have := hus.out; omega))).mono ?_; rintro e w' ⟨rfl, rfl⟩
  rw [hu.out]
  simp only []
  refine hK _ _ (fun _ hS => hS) ?_
  clear hK K
  try simp only [Act.put, List.getElem_toArray, List.getElem_cons_succ, List.getElem_cons_zero, List.setIfInBounds_toArray, List.set_cons_zero, List.set_cons_succ]
  refine Reg.only (i := 3) (by kernel_rfl) rfl (fun K hK => ?_)
  go_simp
  refine (f52_ok w1 (n := n) (by have := hn4.out; omega)).mono ?_; rintro e w' ⟨rfl, rfl⟩
  simp only []
  refine hK _ _ (fun _ hS => hS) ?_
  clear hK K
  try simp only [Act.put, List.getElem_toArray, List.getElem_cons_succ, List.getElem_cons_zero, List.setIfInBounds_toArray, List.set_cons_zero, List.set_cons_succ]
  refine Reg.take0 (i := 4) (v := .int .i64 (m : Int)) rfl (by kernel_rfl) (by kernel_rfl) (by kernel_rfl) (by kernel_rfl) (fun _ _ _ h => h) (Or.inl ⟨by rfl, ?_⟩) ?_
  · (intro w _; go_simp; try with_reducible rfl)
  try simp only [Act.put, List.getElem_toArray, List.getElem_cons_succ, List.getElem_cons_zero, List.setIfInBounds_toArray, List.set_cons_zero, List.set_cons_succ]
  refine Reg.take0 (i := 9) (v := .bool true) rfl (by kernel_rfl) (by kernel_rfl) (by kernel_rfl) (by kernel_rfl) (fun _ _ _ h => h) (Or.inl ⟨by rfl, ?_⟩) ?_
  · (intro w _; go_simp; first | exact e4.out | skip; try with_reducible rfl)
  try simp only [Act.put, List.getElem_toArray, List.getElem_cons_succ, List.getElem_cons_zero, List.setIfInBounds_toArray, List.set_cons_zero, List.set_cons_succ]
  refine Reg.done (by kernel_rfl) ?_ _
  go_wp2_with fail
  go_ret2
  exact ⟨rfl, hbd⟩
set_option maxRecDepth 100000 in
set_option maxHeartbeats 4000000 in
theorem f27_ok {B : Nat} (w : World) {Q : RefS} (H : Hid (RefAt B w Q)) (hlr : Hid (Q.recs.length < 2 ^ 20)) (hus : Hid (usedQ Q.recs ≤ 4096)) {n : Nat} (hn : Hid (1 ≤ n ∧ n ≤ 4096)) (hl : Hid (usedQ Q.recs + takesN n ≤ Q.size)) (hlp : Hid (Q.parts.length + 1 < 2 ^ 30)) :
    Calls Try.prog 27 #[.pointer (some ⟨Q.qb, 0, none⟩), .int .i64 n] w fun e w' => ∃ d : Nat, e = .returned (.tuple #[.int .i64 (d : Int), .int .i64 0]) ∧ d = Q.parts.length + 1 ∧ Only Q.own w w' ∧ ∃ Q' : RefS, RefAt B w' Q' ∧ (∀ k, Q'.own k → Q.own k ∨ w.heap.size ≤ k) ∧ Q'.qb = Q.qb ∧ Q'.nb = Q.nb ∧ Q'.size = Q.size ∧ Q'.recs = Q.recs ++ [⟨d, n, 0, .slice none 0 0, 0, fun _ => 0⟩] ∧ ∃ p, Q'.parts = Q.parts ++ [p] ∧ p.n = n ∧ p.live = true ∧ p.f = fun _ => 0 := by
  obtain ⟨u, hu⟩ : ∃ u, Hid (usedQ Q.recs = u) := ⟨_, Lib.hid rfl⟩
  obtain ⟨m, hm⟩ : ∃ m, Hid (u + takesN n = m) := ⟨_, Lib.hid rfl⟩
  have e1 : ¬ (n : Int) < 1 := by have := hn.out; omega
  have e2 : ¬ (4096 < (n : Int)) := by have := hn.out; omega
  have hn4 := Lib.hid hn.out.2
  have htk : takesN n ≤ 4104 + 7 := by have := hn.out; unfold takesN; omega
  have e3 : IntKind.i64.wrap ((u : Int) + (takesN n : Int)) = (m : Int) := by rw [IntKind.wrap_i64]; have := hm.out; have := hus.out; have := hu.out; omega
  have e4 : Hid (m ≤ Q.size) := Lib.hid (by have := hu.out; have := hm.out; have := hl.out; omega)
  clear htk
  go_enter Try.func27, Try.ntmps27
  go_wp2_with fail
  refine Reg.start (S := (fun w' => w'.cell? ⟨Q.qb, 0, none⟩ = some (.int .i64 (Q.size : Int)))) (B := (fun _ => false)) (by kernel_rfl) ?_
  have hbd : Below w.heap.size w w.drew := (Below.refl _ _).drew
  have H1 := Lib.hid (H.out.below hbd)
  have c0 := H1.out.q0
  revert hbd H1 c0
  generalize w.drew = w1
  intro hbd H1 c0
  refine Reg.take0 (i := 0) (v := ?_) rfl (by kernel_rfl) (by kernel_rfl) (by kernel_rfl) (by kernel_rfl) (fun _ _ _ h => h) (Or.inl ⟨by rfl, ?_⟩) ?_
  rotate_left
  · (intro w _; go_simp; try with_reducible rfl)
  try simp only [Act.put, List.getElem_toArray, List.getElem_cons_succ, List.getElem_cons_zero, List.setIfInBounds_toArray, List.set_cons_zero, List.set_cons_succ]
  refine Reg.take0 (i := 2) (v := ?_) rfl (by kernel_rfl) (by kernel_rfl) (by kernel_rfl) (by kernel_rfl) (fun _ _ _ h => h) (Or.inl ⟨by rfl, ?_⟩) ?_
  rotate_left
  · (intro w _; go_simp; try with_reducible rfl)
  try simp only [Act.put, List.getElem_toArray, List.getElem_cons_succ, List.getElem_cons_zero, List.setIfInBounds_toArray, List.set_cons_zero, List.set_cons_succ]
  refine Reg.take0 (i := 5) (v := ?_) rfl (by kernel_rfl) (by kernel_rfl) (by kernel_rfl) (by kernel_rfl) (fun _ _ _ h => h) (Or.inl ⟨by rfl, ?_⟩) ?_
  rotate_left
  · (intro w _; go_simp; try with_reducible rfl)
  try simp only [Act.put, List.getElem_toArray, List.getElem_cons_succ, List.getElem_cons_zero, List.setIfInBounds_toArray, List.set_cons_zero, List.set_cons_succ]
  refine Reg.take0 (i := 6) (v := ?_) rfl (by kernel_rfl) (by kernel_rfl) (by kernel_rfl) (by kernel_rfl) (fun _ _ _ h => h) (Or.inl ⟨by rfl, ?_⟩) ?_
  rotate_left
  · (intro w _; go_simp; try with_reducible rfl)
  try simp only [Act.put, List.getElem_toArray, List.getElem_cons_succ, List.getElem_cons_zero, List.setIfInBounds_toArray, List.set_cons_zero, List.set_cons_succ]
  refine Reg.take0 (i := 7) (v := ?_) rfl (by kernel_rfl) (by kernel_rfl) (by kernel_rfl) (by kernel_rfl) (fun _ _ _ h => h) (Or.inl ⟨by rfl, ?_⟩) ?_
  rotate_left
  · (intro w _; go_simp; try with_reducible rfl)
  try simp only [Act.put, List.getElem_toArray, List.getElem_cons_succ, List.getElem_cons_zero, List.setIfInBounds_toArray, List.set_cons_zero, List.set_cons_succ]
  refine Reg.take1 (i := 8) (v := ?_) rfl (by kernel_rfl) (by kernel_rfl) (by kernel_rfl) (by kernel_rfl) (by kernel_rfl) (fun _ _ _ h => h) (Or.inl ⟨by rfl, ?_⟩) c0 ?_
  rotate_left
  · (intro w hS; have hs1 := hS; go_simp; try with_reducible rfl)
  try simp only [Act.put, List.getElem_toArray, List.getElem_cons_succ, List.getElem_cons_zero, List.setIfInBounds_toArray, List.set_cons_zero, List.set_cons_succ]
  refine Reg.only (i := 1) (by kernel_rfl) rfl (fun K hK => ?_)
  go_simp
  refine (f34_ok w1 H1 hlr (Lib.hid (by have := hus.out; omega))).mono ?_; rintro e w' ⟨rfl, rfl⟩
  rw [hu.out]
  simp only []
  refine hK _ _ (fun _ hS => hS) ?_
  clear hK K
  try simp only [Act.put, List.getElem_toArray, List.getElem_cons_succ, List.getElem_cons_zero, List.setIfInBounds_toArray, List.set_cons_zero, List.set_cons_succ]
  refine Reg.only (i := 3) (by kernel_rfl) rfl (fun K hK => ?_)
  go_simp
  refine (f52_ok w1 (n := n) (by have := hn4.out; omega)).mono ?_; rintro e w' ⟨rfl, rfl⟩
  simp only []
  refine hK _ _ (fun _ hS => hS) ?_
  clear hK K
  try simp only [Act.put, List.getElem_toArray, List.getElem_cons_succ, List.getElem_cons_zero, List.setIfInBounds_toArray, List.set_cons_zero, List.set_cons_succ]
  refine Reg.take0 (i := 4) (v := .int .i64 (m : Int)) rfl (by kernel_rfl) (by kernel_rfl) (by kernel_rfl) (by kernel_rfl) (fun _ _ _ h => h) (Or.inl ⟨by rfl, ?_⟩) ?_
  · (intro w _; go_simp; try with_reducible rfl)
  try simp only [Act.put, List.getElem_toArray, List.getElem_cons_succ, List.getElem_cons_zero, List.setIfInBounds_toArray, List.set_cons_zero, List.set_cons_succ]
  refine Reg.take0 (i := 9) (v := .bool false) rfl (by kernel_rfl) (by kernel_rfl) (by kernel_rfl) (by kernel_rfl) (fun _ _ _ h => h) (Or.inl ⟨by rfl, ?_⟩) ?_
  · (intro w _; go_simp; first | exact e4.out | skip; try with_reducible rfl)
  try simp only [Act.put, List.getElem_toArray, List.getElem_cons_succ, List.getElem_cons_zero, List.setIfInBounds_toArray, List.set_cons_zero, List.set_cons_succ]
  refine Reg.done (by kernel_rfl) ?_ _
  go_wp2_with fail
  refine Reg.start (S := (fun w' => w'.cell? ⟨Q.qb, 1, none⟩ = some (.pointer (some ⟨Q.nb, 0, none⟩)))) (B := (fun _ => false)) (by kernel_rfl) ?_
  have hbd2 : Below w.heap.size w w1.drew := hbd.drew
  have H2 := Lib.hid (H1.out.below (Below.refl _ _).drew)
  have c1 := H2.out.q1
  revert hbd2 H2 c1
  generalize w1.drew = w2
  intro hbd2 H2 c1
  clear H1 c0 hbd
  obtain ⟨w3, hmk, hbt, hth, hk5, hb3, hlt3⟩ := make_bytes w2 (n := n) (v := n) (by have := hn4.out; omega) rfl
  have H3 := Lib.hid (H2.out.below hb3)
  have hB3 : Hid (Below w.heap.size w w3) := Lib.hid (hbd2.trans (hb3.mono hbd2.size))
  have hbt := Lib.hid hbt
  clear hth hk5 hlt3
  refine Reg.take0 (i := 0) (v := ?_) rfl (by kernel_rfl) (by kernel_rfl) (by kernel_rfl) (by kernel_rfl) (fun _ _ _ h => h) (Or.inl ⟨by rfl, ?_⟩) ?_
  rotate_left
  · (intro w _; go_simp; try with_reducible rfl)
  try simp only [Act.put, List.getElem_toArray, List.getElem_cons_succ, List.getElem_cons_zero, List.setIfInBounds_toArray, List.set_cons_zero, List.set_cons_succ]
  refine Reg.take0 (i := 1) (v := ?_) rfl (by kernel_rfl) (by kernel_rfl) (by kernel_rfl) (by kernel_rfl) (fun _ _ _ h => h) (Or.inl ⟨by rfl, ?_⟩) ?_
  rotate_left
  · (intro w _; go_simp; try with_reducible rfl)
  try simp only [Act.put, List.getElem_toArray, List.getElem_cons_succ, List.getElem_cons_zero, List.setIfInBounds_toArray, List.set_cons_zero, List.set_cons_succ]
  refine Reg.take0 (i := 2) (v := ?_) rfl (by kernel_rfl) (by kernel_rfl) (by kernel_rfl) (by kernel_rfl) (fun _ _ _ h => h) (Or.inl ⟨by rfl, ?_⟩) ?_
  rotate_left
  · (intro w _; go_simp; try with_reducible rfl)
  try simp only [Act.put, List.getElem_toArray, List.getElem_cons_succ, List.getElem_cons_zero, List.setIfInBounds_toArray, List.set_cons_zero, List.set_cons_succ]
  refine Reg.take1 (i := 3) (v := ?_) rfl (by kernel_rfl) (by kernel_rfl) (by kernel_rfl) (by kernel_rfl) (by kernel_rfl) (fun _ _ _ h => h) (Or.inl ⟨by rfl, ?_⟩) c1 ?_
  rotate_left
  · (intro w hS; have hs1 := hS; go_simp; try with_reducible rfl)
  try simp only [Act.put, List.getElem_toArray, List.getElem_cons_succ, List.getElem_cons_zero, List.setIfInBounds_toArray, List.set_cons_zero, List.set_cons_succ]
  refine Reg.take0 (i := 4) (v := ?_) rfl (by kernel_rfl) (by kernel_rfl) (by kernel_rfl) (by kernel_rfl) (fun _ _ _ h => h) (Or.inl ⟨by rfl, ?_⟩) ?_
  rotate_left
  · (intro w _; go_simp; try with_reducible rfl)
  try simp only [Act.put, List.getElem_toArray, List.getElem_cons_succ, List.getElem_cons_zero, List.setIfInBounds_toArray, List.set_cons_zero, List.set_cons_succ]
  refine Reg.only (i := 5) (by kernel_rfl) rfl (fun K hK => ?_)
  go_simp
  refine hK _ _ (fun _ hS => (hb3.cell (World.block_lt_of_cell? _ _ hS)).trans hS) ?_
  clear hK K
  try simp only [Act.put, List.getElem_toArray, List.getElem_cons_succ, List.getElem_cons_zero, List.setIfInBounds_toArray, List.set_cons_zero, List.set_cons_succ]
  refine Reg.only (i := 6) (by kernel_rfl) rfl (fun K hK => ?_)
  go_simp
  refine (f53_ok w3 H3 (Lib.hid (Nat.le_trans H.out.big hB3.out.size)) hlp hbt (Lib.hid fun _ _ => by decide) hn).mono ?_; rintro e w4 ⟨d, rfl, hd, hO4, p, pv', hR4, hpn, hpl, hpf, hpb, hpbb, hpv⟩
  have hd_ := hd
  clear hd
  have hd := Lib.hid hd_
  clear hd_
  simp only []
  refine hK _ _ (fun _ hS => (hO4.cell (World.block_lt_of_cell? _ _ hS) (fun he => by rcases he with he | he; exact absurd (H3.out.kq.inj (he ▸ H3.out.kn)) (by decide); exact absurd ((H3.out.prow.own he).1.inj H3.out.kq) (by decide))).trans hS) ?_
  clear hK K
  try simp only [Act.put, List.getElem_toArray, List.getElem_cons_succ, List.getElem_cons_zero, List.setIfInBounds_toArray, List.set_cons_zero, List.set_cons_succ]
  refine Reg.take0 (i := 7) (v := ?_) rfl (by kernel_rfl) (by kernel_rfl) (by kernel_rfl) (by kernel_rfl) (fun _ _ _ h => h) (Or.inl ⟨by rfl, ?_⟩) ?_
  rotate_left
  · (intro w _; go_simp; try with_reducible rfl)
  try simp only [Act.put, List.getElem_toArray, List.getElem_cons_succ, List.getElem_cons_zero, List.setIfInBounds_toArray, List.set_cons_zero, List.set_cons_succ]
  refine Reg.done (by kernel_rfl) ?_ _
  have hR4 := Lib.hid hR4
  have hO4 := Lib.hid hO4
  have q2 := hR4.out.q2
  simp only at q2
  have hrow := hR4.out.row
  simp only at hrow
  have hal := Below.one (w := w4) (.cells #[.int .i64 (d : Int), .int .i64 (n : Int), .int .i64 0, .slice none 0 0] 104)
  have hB4 : B ≤ w4.heap.size := hR4.out.big
  obtain ⟨rv', w5, hap, hr5, hg5, hv5⟩ := (hrow.only (S := fun _ => False) (Only.of_below hal) fun _ _ h => h).append (by simp; omega) (by have := hlr.out; omega) (ys := [.int .i64 (d : Int), .int .i64 (n : Int), .int .i64 0, .slice none 0 0]) rfl (fun u hu => by simp at hu; rcases hu with rfl | rfl | rfl | rfl <;> rfl) (nb := w4.heap.size) (fun j u hu => by
    rw [World.cell?_alloc_at _ _ _ _ rfl]; simpa using hu)
  have hap := hap 100
  obtain ⟨a5, q5, e5, rfl⟩ : ∃ a q c, rv' = .slice a q c := by obtain ⟨a, c, h⟩ := hr5.len; exact ⟨a, _, c, h⟩
  have hKr : ∀ k, Q.rv.ownBlock = some k → KindAt w4 k 104 := fun k hk => (hrow.own hk).1
  have hnn : some Q.qb ≠ Q.rv.ownBlock := fun he => absurd ((hKr _ he.symm).inj hR4.out.kq) (by decide)
  have X5 : ∀ k, k < w4.heap.size → Q.rv.ownBlock ≠ some k → w5.heap[k]? = w4.heap[k]? := fun k hk hn => (hg5.block k (by simp; omega) (fun he => hn he.symm)).trans (heap_alloc_old w4 _ hk)
  have c5' : ∀ k j, k < w4.heap.size → Q.rv.ownBlock ≠ some k → w5.cell? ⟨k, j, none⟩ = w4.cell? ⟨k, j, none⟩ := fun k j hk hn => World.cell?_of_block (a := ⟨k, j, none⟩) (X5 k hk hn)
  have hql := hR4.out.kq.lt
  have hqn : Q.rv.ownBlock ≠ some Q.qb := fun he => hnn he.symm
  have q25 : w5.cell? ⟨Q.qb, 2, none⟩ = some Q.rv := (c5' _ _ hql hqn).trans q2
  have q05 := (c5' _ 0 hql hqn).trans hR4.out.q0
  have q15 := (c5' _ 1 hql hqn).trans hR4.out.q1
  have tq5 : Thaw w5 Q.qb := fun j => (World.frozen?_of_block (a := ⟨Q.qb, j, none⟩) (X5 _ hql hqn)).trans (hR4.out.tq j)
  have z5 := tq5 2
  have kq5 : KindAt w5 Q.qb 102 := by obtain ⟨cs, fz, h1⟩ := hR4.out.kq; exact ⟨cs, fz, (X5 _ hql hqn).trans h1⟩
  have O5 : Only (fun k => k = Q.qb ∨ Q.rv.ownBlock = some k) w4 w5 := by
    refine ⟨hg5.os, hg5.tape, hg5.output, by have h1 := hg5.size; simp at h1; omega, fun k hk hn => X5 k hk fun he => hn (.inr he), fun k e he hk => ?_⟩
    by_cases hn : Q.rv.ownBlock = some k
    · have h1 := hk.inj (hKr k hn)
      subst h1; exact absurd he (by decide)
    · have hlt := hk.lt
      obtain ⟨cs, fz, h1⟩ := hk
      exact ⟨cs, fz, (X5 k hlt hn).trans h1⟩
  have O6 : Only (fun k => k = Q.qb ∨ Q.rv.ownBlock = some k) w4 (w5.setCell ⟨Q.qb, 2, none⟩ (.slice a5 q5 e5)) := Only.setCell (S := fun k => k = Q.qb ∨ Q.rv.ownBlock = some k) O5 (fun _ => .inl rfl) _
  have O56 : Only (· = Q.qb) w5 (w5.setCell ⟨Q.qb, 2, none⟩ (.slice a5 q5 e5)) := Only.setCell (S := (· = Q.qb)) (Only.refl _ _) (fun _ => rfl) _
  have hfin := ref_rec hR4.out (l := Q.recs ++ [⟨d, n, 0, .slice none 0 0, 0, fun _ => 0⟩]) (rv' := .slice a5 q5 e5) O6 (tq5.setCell _ _) (kq5.setCell _ _) ((cell_ne _ (.inr (by decide))).trans q05) ((cell_ne _ (.inr (by decide))).trans q15) (cell_same _ q25)
    ((by rw [flat_append, List.length_append]; exact hr5 : RowQ B w5 (.slice a5 q5 e5) (Q.recs ++ [(⟨d, n, 0, .slice none 0 0, 0, fun _ => 0⟩ : QR)]).length (flat (Q.recs ++ [⟨d, n, 0, .slice none 0 0, 0, fun _ => 0⟩]))).only O56 fun k hk he => by subst he; exact absurd ((hr5.own hk).1.inj kq5) (by decide))
    (fun r hr => by
      rcases List.mem_append.1 hr with hr | hr
      · exact .inl hr
      · obtain rfl := List.mem_singleton.1 hr
        exact .inr ⟨rfl, ⟨by show (0 : Nat) ≤ 2; decide, hn.out, fun _ => rfl, fun h => absurd rfl h⟩⟩)
  have hOF : Only Q.own w (w5.setCell ⟨Q.qb, 2, none⟩ (.slice a5 q5 e5)) := ((Only.of_below (S := Q.own) hB3.out).then hO4.out fun k _ h => h.elim (fun h => .inr (.inl h)) (fun h => .inr (.inr (.inr (.inl h))))).then O6 fun k _ h => h.elim .inl fun h => .inr (.inr (.inl h))
  have hown : ∀ k, ({ Q with parts := Q.parts ++ [p], pv := pv', recs := Q.recs ++ [⟨d, n, 0, .slice none 0 0, 0, fun _ => 0⟩], rv := .slice a5 q5 e5 } : RefS).own k → Q.own k ∨ w.heap.size ≤ k := fun k hk => by
    have s3 := hB3.out.size
    have s4 := hO4.out.size
    rcases hk with h | h | h | h | ⟨x, hx, h⟩ | ⟨r, hr, hs, h⟩
    · exact .inl (.inl h)
    · exact .inl (.inr (.inl h))
    · rcases hv5 with h5 | ⟨k', h5, h6⟩
      · exact .inl (.inr (.inr (.inl (h5 ▸ h))))
      · have h7 := h5.symm.trans h; obtain rfl := Option.some.inj h7; simp at h6; exact .inr (by omega)
    · rcases hpv with h5 | ⟨k', h5, h6⟩
      · exact .inl (.inr (.inr (.inr (.inl (h5 ▸ h)))))
      · have h7 := h5.symm.trans h; obtain rfl := Option.some.inj h7; exact .inr (by omega)
    · rcases List.mem_append.1 hx with hx | hx
      · exact .inl (.inr (.inr (.inr (.inr (.inl ⟨x, hx, h⟩)))))
      · obtain rfl := List.mem_singleton.1 hx
        rcases h with rfl | rfl
        · exact .inr (by omega)
        · exact .inr (by omega)
    · rcases List.mem_append.1 hr with hr | hr
      · exact .inl (.inr (.inr (.inr (.inr (.inr ⟨r, hr, hs, h⟩)))))
      · obtain rfl := List.mem_singleton.1 hr
        exact absurd rfl hs
  have hfin := Lib.hid hfin
  have hOF := Lib.hid hOF
  have hown := Lib.hid hown
  have hp := Lib.hid (And.intro hpn (And.intro hpl hpf))
  clear O56 O6 O5 kq5 tq5 q15 q05 hql hqn c5' X5 hnn hKr hv5 hg5 hr5 hal hpn hpl hpf hpb hpbb hpv hrow
  have hap' := Lib.hid hap
  clear hap
  go_wp2_with (at_builtin; refine wpList_plain rfl fun K hK => wp_append_run (.tmp 34) (.tmp 38) 100 rfl _ _ _ rfl rfl hap'.out (hK _ _ ?_))
  go_ret2
  exact ⟨d, rfl, hd.out, hOF.out, _, hfin.out, hown.out, rfl, rfl, rfl, rfl, p, rfl, hp.out.1, hp.out.2.1, hp.out.2.2⟩
end Go.Proofs.Ytmjeloinibembaa
