/-
  THE DOCUMENT'S RING: Add.
-/
import Derived.Test.YtmjeloinibembaaRefB
namespace Go.Proofs.Ytmjeloinibembaa
open Go.RowKit
set_option linter.unusedVariables false
set_option linter.unusedSimpArgs false
/-- a slice of bytes is copied. -/
theorem clone_nil (w : World) {sb so n c0 : Nat} {f : Nat → Nat} (hb : Bts w sb so n f) (hn : 1 ≤ n ∧ n < 2 ^ 30) : ∃ c w', (∀ ty, (Builtin.append_ #[30, 30] ty #[.slice none 0 0, .slice (some ⟨sb, so, none⟩) n c0]).run Try.prog w = .ok (.slice (some ⟨w.heap.size, 0, none⟩) n c) w') ∧ n ≤ c ∧ Bts w' w.heap.size 0 n f ∧ KindAt w' w.heap.size 5 ∧ Thaw w' w.heap.size ∧ Below w.heap.size w w' := by
  have hr : ∀ ty, _ := fun ty => run_append_nil (P := Try.prog) w 30 ty 5 Try.t5 (.int .u8 0) Try.underlying30 info5 zero5 ⟨sb, so, none⟩ n c0 (byteL f n) (by rw [size5, Nat.mul_one, byteL_length]) (fun j u hu => by obtain ⟨hj, rfl⟩ := byteL_some hu; rw [addr_add]; exact hb j hj) (by omega) (by omega) (by rw [bytes5]; omega)
  refine ⟨_, _, hr, grownCap_ge w n 0 5, fun i hi => ?_, KindAt.new _ _ _, fun j => ?_, ?_⟩
  · rw [World.cell?_alloc_at (w := w.drew) _ _ w.heap.size _ rfl, Nat.zero_add, Array.getElem?_append_left (by simp [byteL_length]; exact hi)]
    simpa using byteL_at hi
  · have := Thaw.new w.drew ((byteL f n).toArray ++ Builtin.zeroCells (Value.int .u8 0).cells (grownCap w n 0 5 - n)) 5 j
    exact this
  · exact (Below.refl w.heap.size w).drew.alloc (Nat.le_refl _) _
set_option maxRecDepth 100000 in
theorem part_obj (q : Option Addr) (n c : Nat) : ∃ X : Array Value, Hid ((((Try.zeroCells113.setIfInBounds 0 (.bool true)).setIfInBounds 2 (.bool true)).setIfInBounds 3 (.int .i64 0)).setIfInBounds 4 (.slice q n c) = X) ∧ X[0]? = some (.bool true) ∧ X[1]? = some (.bool false) ∧ X[4]? = some (.slice q n c) := ⟨_, Lib.hid rfl, by kernel_rfl, by kernel_rfl, by kernel_rfl⟩
/-- a part is added. -/
theorem ref_add {B : Nat} {w w' : World} {Q : RefS} (H : RefAt B w Q) {p : Prt} {pv' : Value} (ho : Only (fun k => k = Q.nb ∨ Q.pv.ownBlock = some k) w w') (hp : PartAt w' p) (h1 : w.heap.size ≤ p.pb) (h2 : w.heap.size ≤ p.bb) (tn : Thaw w' Q.nb) (kn : KindAt w' Q.nb 99) (n0 : w'.cell? ⟨Q.nb, 0, none⟩ = some pv') (hr : RowAt B 106 w' pv' ((Q.parts ++ [p]).map Prt.ptr)) (hB : B ≤ w.heap.size) : RefAt B w' { Q with parts := Q.parts ++ [p], pv := pv' } := by
  have nk : ∀ k e, KindAt w k e → e ≠ 99 → e ≠ 106 → ¬ (k = Q.nb ∨ Q.pv.ownBlock = some k) := fun k e hk a b h => by
    rcases h with rfl | h
    · exact a (hk.inj H.kn)
    · exact b (hk.inj (H.prow.own h).1)
  have n1 := nk _ _ H.kq (by decide) (by decide)
  have c : ∀ j, w'.cell? ⟨Q.qb, j, none⟩ = w.cell? ⟨Q.qb, j, none⟩ := fun j => ho.cell (p := ⟨Q.qb, j, none⟩) H.kq.lt n1
  refine ⟨H.kq.keep ho n1, H.tq.only ho H.kq.lt n1, by rw [c]; exact H.q0, by rw [c]; exact H.q1, by rw [c]; exact H.q2, kn, tn, n0, H.row.only ho fun k hk => nk _ _ (H.row.own hk).1 (by decide) (by decide), hr, fun x hx => ?_, fun r hr => (H.recs r hr).only ho fun hs => nk _ _ ((H.recs r hr).done hs).2.2.1 (by decide) (by decide), ?_, fun r hr hs x hx => ?_, fun k hk => ?_⟩
  · rcases List.mem_append.1 hx with hx | hx
    · have hX := H.parts x hx
      exact hX.only ho (nk _ _ hX.kind (by decide) (by decide)) (nk _ _ hX.kB (by decide) (by decide))
    · obtain rfl := List.mem_singleton.1 hx; exact hp
  · refine List.pairwise_append.2 ⟨H.app, by simp, fun x hx y hy => ?_⟩
    obtain rfl := List.mem_singleton.1 hy
    have hX := H.parts x hx
    have a1 := hX.kind.lt
    have a2 := hX.kB.lt
    exact ⟨by omega, by omega⟩
  · rcases List.mem_append.1 hx with hx | hx
    · exact H.apr r hr hs x hx
    · obtain rfl := List.mem_singleton.1 hx
      have := ((H.recs r hr).done hs).2.2.1.lt; omega
  · rcases hk with rfl | rfl | hk | hk | ⟨x, hx, hk⟩ | ⟨r, hr, hs, rfl⟩
    · exact H.ge _ (.inl rfl)
    · exact H.ge _ (.inr (.inl rfl))
    · exact H.ge _ (.inr (.inr (.inl hk)))
    · exact (hr.own hk).2
    · rcases List.mem_append.1 hx with hx | hx
      · exact H.ge _ (.inr (.inr (.inr (.inr (.inl ⟨x, hx, hk⟩)))))
      · obtain rfl := List.mem_singleton.1 hx
        rcases hk with rfl | rfl <;> omega
    · exact H.ge _ (.inr (.inr (.inr (.inr (.inr ⟨r, hr, hs, rfl⟩)))))
set_option maxRecDepth 100000 in
set_option maxHeartbeats 2000000 in
theorem f53_ok {B : Nat} (w : World) {Q : RefS} (H : Hid (RefAt B w Q)) (hB : Hid (B ≤ w.heap.size)) (hl : Hid (Q.parts.length + 1 < 2 ^ 30)) {sb so n c : Nat} {f : Nat → Nat} (hb : Hid (Bts w sb so n f)) (hf : Hid (∀ i, i < n → f i < 256)) (hn : Hid (1 ≤ n ∧ n ≤ 4096)) :
    Calls Try.prog 53 #[.pointer (some ⟨Q.nb, 0, none⟩), .slice (some ⟨sb, so, none⟩) n c, .bool true, .int .i64 0] w fun e w' => ∃ d : Nat, e = .returned (.int .i64 (d : Int)) ∧ d = Q.parts.length + 1 ∧ Only (fun k => k = Q.nb ∨ Q.pv.ownBlock = some k) w w' ∧ ∃ (p : Prt) (pv' : Value), RefAt B w' { Q with parts := Q.parts ++ [p], pv := pv' } ∧ p.n = n ∧ p.live = true ∧ p.f = f ∧ w.heap.size ≤ p.pb ∧ w.heap.size ≤ p.bb ∧ (pv'.ownBlock = Q.pv.ownBlock ∨ ∃ k, pv'.ownBlock = some k ∧ w.heap.size ≤ k) := by
  have e0 : (0 : Int) ≤ (n : Int) := by omega
  have hmin : min (0 : Int) (n : Int) = 0 := by omega
  go_enter Try.func53, Try.ntmps53
  go_wp2_with fail
  refine Reg.start (S := (fun w' => w'.cell? ⟨Q.nb, 0, none⟩ = some Q.pv)) (B := (fun j => [15].contains j)) (by kernel_rfl) ?_
  have hbd : Below w.heap.size w w.drew := (Below.refl _ _).drew
  have H1 := Lib.hid (H.out.below hbd)
  have hb1 : Hid (Bts w.drew sb so n f) := Lib.hid hb.out
  have c0 := H1.out.n0
  revert hbd H1 hb1 c0
  generalize w.drew = w1
  intro hbd H1 hb1 c0
  obtain ⟨c2, w2, hcl, hnc, hbt2, hk2, ht2, hB2⟩ := clone_nil w1 hb1.out (c0 := c) (by have := hn.out; omega)
  have hcl := hcl 30
  obtain ⟨bb, hbb⟩ : ∃ bb, w1.heap.size = bb := ⟨_, rfl⟩
  rw [hbb] at hcl hbt2 hk2 ht2
  refine Reg.take0 (i := 0) (v := ?_) rfl (by kernel_rfl) (by kernel_rfl) (by kernel_rfl) (by kernel_rfl) (fun _ _ _ h => h) (Or.inl ⟨by rfl, ?_⟩) ?_
  rotate_left
  · (intro w _; go_simp; try with_reducible rfl)
  try simp only [Act.put, List.getElem_toArray, List.getElem_cons_succ, List.getElem_cons_zero, List.setIfInBounds_toArray, List.set_cons_zero, List.set_cons_succ]
  refine Reg.take0 (i := 1) (v := ?_) rfl (by kernel_rfl) (by kernel_rfl) (by kernel_rfl) (by kernel_rfl) (fun _ _ _ h => h) (Or.inl ⟨by rfl, ?_⟩) ?_
  rotate_left
  · (intro w _; go_simp; try with_reducible rfl)
  try simp only [Act.put, List.getElem_toArray, List.getElem_cons_succ, List.getElem_cons_zero, List.setIfInBounds_toArray, List.set_cons_zero, List.set_cons_succ]
  refine Reg.take0 (i := 2) (v := ?_) rfl (by kernel_rfl) (by kernel_rfl) (by kernel_rfl) (by kernel_rfl) (fun _ _ _ h => h) (Or.inl ⟨by rfl, ?_⟩) ?_
  rotate_left
  · (intro w _; go_simp; try with_reducible rfl)
  try simp only [Act.put, List.getElem_toArray, List.getElem_cons_succ, List.getElem_cons_zero, List.setIfInBounds_toArray, List.set_cons_zero, List.set_cons_succ]
  refine Reg.take0 (i := 3) (v := ?_) rfl (by kernel_rfl) (by kernel_rfl) (by kernel_rfl) (by kernel_rfl) (fun _ _ _ h => h) (Or.inl ⟨by rfl, ?_⟩) ?_
  rotate_left
  · (intro w _; go_simp; try with_reducible rfl)
  try simp only [Act.put, List.getElem_toArray, List.getElem_cons_succ, List.getElem_cons_zero, List.setIfInBounds_toArray, List.set_cons_zero, List.set_cons_succ]
  refine Reg.take1 (i := 4) (v := ?_) rfl (by kernel_rfl) (by kernel_rfl) (by kernel_rfl) (by kernel_rfl) (by kernel_rfl) (fun _ _ _ h => h) (Or.inl ⟨by rfl, ?_⟩) c0 ?_
  rotate_left
  · (intro w hS; have hs1 := hS; go_simp; try with_reducible rfl)
  try simp only [Act.put, List.getElem_toArray, List.getElem_cons_succ, List.getElem_cons_zero, List.setIfInBounds_toArray, List.set_cons_zero, List.set_cons_succ]
  refine Reg.take0 (i := 5) (v := ?_) rfl (by kernel_rfl) (by kernel_rfl) (by kernel_rfl) (by kernel_rfl) (fun _ _ _ h => h) (Or.inl ⟨by rfl, ?_⟩) ?_
  rotate_left
  · (intro w _; go_simp; try with_reducible rfl)
  try simp only [Act.put, List.getElem_toArray, List.getElem_cons_succ, List.getElem_cons_zero, List.setIfInBounds_toArray, List.set_cons_zero, List.set_cons_succ]
  refine Reg.take0 (i := 6) (v := ?_) rfl (by kernel_rfl) (by kernel_rfl) (by kernel_rfl) (by kernel_rfl) (fun _ _ _ h => h) (Or.inl ⟨by rfl, ?_⟩) ?_
  rotate_left
  · (intro w _; go_simp; try with_reducible rfl)
  try simp only [Act.put, List.getElem_toArray, List.getElem_cons_succ, List.getElem_cons_zero, List.setIfInBounds_toArray, List.set_cons_zero, List.set_cons_succ]
  refine Reg.take0 (i := 7) (v := ?_) rfl (by kernel_rfl) (by kernel_rfl) (by kernel_rfl) (by kernel_rfl) (fun _ _ _ h => h) (Or.inl ⟨by rfl, ?_⟩) ?_
  rotate_left
  · (intro w _; go_simp; try with_reducible rfl)
  try simp only [Act.put, List.getElem_toArray, List.getElem_cons_succ, List.getElem_cons_zero, List.setIfInBounds_toArray, List.set_cons_zero, List.set_cons_succ]
  refine Reg.only (i := 8) (by kernel_rfl) rfl (fun K hK => ?_)
  rw [if_pos (by rfl)]
  refine wp_append_run (.const (.slice none 0 0)) (.tmp 21) 30 rfl _ _ _ rfl rfl hcl ?_
  refine hK _ _ (fun _ hS => (hB2.cell (World.block_lt_of_cell? _ _ hS)).trans hS) ?_
  clear hK K
  try simp only [Act.put, List.getElem_toArray, List.getElem_cons_succ, List.getElem_cons_zero, List.setIfInBounds_toArray, List.set_cons_zero, List.set_cons_succ]
  obtain ⟨PV, hPV, hp0, hp1, hp4⟩ := part_obj (some ⟨bb, 0, none⟩) n c2
  refine Reg.take0 (i := 9) (v := .agg PV) rfl (by kernel_rfl) (by kernel_rfl) (by kernel_rfl) (by kernel_rfl) (fun _ _ _ h => h) (Or.inl ⟨by rfl, ?_⟩) ?_
  · (intro w _; go_simp; first | exact hPV.out | rw [hPV.out]; try with_reducible rfl)
  try simp only [Act.put, List.getElem_toArray, List.getElem_cons_succ, List.getElem_cons_zero, List.setIfInBounds_toArray, List.set_cons_zero, List.set_cons_succ]
  refine Reg.only (i := 10) (by kernel_rfl) rfl (fun K hK => ?_)
  go_simp
  refine hK _ _ (fun _ hS => kpa hS) ?_
  clear hK K
  try simp only [Act.put, List.getElem_toArray, List.getElem_cons_succ, List.getElem_cons_zero, List.setIfInBounds_toArray, List.set_cons_zero, List.set_cons_succ]
  have P3 : PartAt (w2.alloc (.cells PV 113)) ⟨w2.heap.size, bb, n, true, f⟩ :=
    ⟨KindAt.new _ _ _, Thaw.new _ _ _, by rw [World.cell?_alloc_at _ _ _ _ rfl]; exact hp0, by rw [World.cell?_alloc_at _ _ _ _ rfl]; exact hp1, ⟨c2, hnc, by rw [World.cell?_alloc_at _ _ _ _ rfl]; exact hp4⟩, fun i hi => kpa (hbt2 i hi), hk2.alloc _, ht2.alloc hk2.lt _, hf.out, hn.out⟩
  have B3 : Below w1.heap.size w1 (w2.alloc (.cells PV 113)) := hB2.alloc hB2.size _
  have c3 := kpa (o := .cells PV 113) ((hB2.cell (World.block_lt_of_cell? _ _ c0)).trans c0)
  have hpb : w1.heap.size ≤ w2.heap.size := hB2.size
  obtain ⟨pb, hpbe⟩ : ∃ pb, w2.heap.size = pb := ⟨_, rfl⟩
  rw [hpbe] at hpb P3
  clear hPV hp0 hp1 hp4 hcl hbt2 hk2 ht2 hB2
  revert P3 B3 c3
  rw [hpbe]
  generalize w2.alloc (.cells PV 113) = w3
  intro B3 c3 P3
  refine Reg.only (i := 11) (by kernel_rfl) rfl (fun K hK => ?_)
  go_simp
  refine hK _ _ (fun _ hS => kpa hS) ?_
  clear hK K
  try simp only [Act.put, List.getElem_toArray, List.getElem_cons_succ, List.getElem_cons_zero, List.setIfInBounds_toArray, List.set_cons_zero, List.set_cons_succ]
  have hal := Below.one (w := w3) (.cells #[.pointer (some ⟨pb, 0, none⟩)] 106)
  have hB3 : B ≤ w3.heap.size := Nat.le_trans hB.out (Nat.le_trans hbd.size B3.size)
  have hr4 : RowAt B 106 (w3.alloc (.cells #[.pointer (some ⟨pb, 0, none⟩)] 106)) Q.pv (Q.parts.map Prt.ptr) := (H1.out.prow.below B3).below hal
  obtain ⟨pv', w5, hap, hr5, hg5, hv5⟩ := hr4.append (t := 97) (by simp; omega) Try.t106 (.pointer none) 8 und97 info106 zero106 size106 bytes106 rfl (by decide) (by rw [List.length_map]; have := hl.out; omega) (.pointer (some ⟨pb, 0, none⟩)) rfl (nb := w3.heap.size) (by rw [World.cell?_alloc_at _ _ _ _ rfl]; rfl) (fun he => by have := ((H1.out.prow.below B3).own he).1.lt; omega)
  have hap := hap 97
  obtain ⟨a5, q5, e5, rfl⟩ : ∃ a q c, pv' = .slice a q c := by obtain ⟨a, c, h⟩ := hr5.len; exact ⟨a, _, c, h⟩
  have hKp : ∀ k, Q.pv.ownBlock = some k → KindAt w1 k 106 := fun k hk => (H1.out.prow.own hk).1
  have hnn : some Q.nb ≠ Q.pv.ownBlock := fun he => absurd ((hKp _ he.symm).inj H1.out.kn) (by decide)
  refine Reg.only (i := 12) (by kernel_rfl) rfl (fun K hK => ?_)
  rw [if_pos (by rfl)]
  refine wp_append_run (.tmp 18) (.tmp 25) 97 rfl _ _ _ rfl rfl hap ?_
  refine hK _ _ (fun _ hS => hg5.cell hS hnn) ?_
  clear hK K
  try simp only [Act.put, List.getElem_toArray, List.getElem_cons_succ, List.getElem_cons_zero, List.setIfInBounds_toArray, List.set_cons_zero, List.set_cons_succ]
  have c5 : w5.cell? ⟨Q.nb, 0, none⟩ = some Q.pv := hg5.cell (kpa c3) hnn
  have O5 : Only (fun k => k = Q.nb ∨ Q.pv.ownBlock = some k) w w5 := by
    refine ⟨hg5.os.trans (B3.os.trans hbd.os), hg5.tape.trans (B3.tape.trans hbd.tape), hg5.output.trans (B3.output.trans hbd.output), ?_, fun k hk hn => ?_, fun k e he hk => ?_⟩
    · have h1 := hg5.size; simp at h1; have := B3.size; have := hbd.size; omega
    · have hk1 : k < w1.heap.size := Nat.lt_of_lt_of_le hk hbd.size
      have hk3 : k < w3.heap.size := Nat.lt_of_lt_of_le hk1 B3.size
      exact (hg5.block k (by simp; omega) (fun he => hn (.inr he.symm))).trans ((heap_alloc_old w3 _ hk3).trans ((B3.block k hk1).trans (hbd.block k hk)))
    · by_cases hn : Q.pv.ownBlock = some k
      · have := hKp k hn
        have h1 := (hk.below hbd).inj this
        subst h1; exact absurd he (by decide)
      · have hk1 : k < w1.heap.size := Nat.lt_of_lt_of_le hk.lt hbd.size
        have hk3 : k < w3.heap.size := Nat.lt_of_lt_of_le hk1 B3.size
        obtain ⟨cs, fz, h1⟩ := hk
        exact ⟨cs, fz, ((hg5.block k (by simp; omega) (fun he => hn he.symm)).trans ((heap_alloc_old w3 _ hk3).trans ((B3.block k hk1).trans (hbd.block k (Array.getElem?_eq_some_iff.1 h1).1)))).trans h1⟩
  have X5 : ∀ k, k < w3.heap.size → Q.pv.ownBlock ≠ some k → w5.heap[k]? = w3.heap[k]? := fun k hk hn => (hg5.block k (by simp; omega) (fun he => hn he.symm)).trans (heap_alloc_old w3 _ hk)
  have nb3 : Q.nb < w3.heap.size := World.block_lt_of_cell? _ _ c3
  have tn3 : Thaw w3 Q.nb := H1.out.tn.only (S := fun _ => False) (Only.of_below B3) H1.out.kn.lt (fun h => h)
  have tn5 : Thaw w5 Q.nb := fun j => (World.frozen?_of_block (a := ⟨Q.nb, j, none⟩) (X5 _ nb3 (fun he => hnn he.symm))).trans (tn3 j)
  have kn5 : KindAt w5 Q.nb 99 := by
    obtain ⟨cs, fz, h1⟩ := H1.out.kn.keep (S := fun _ => False) (Only.of_below B3) (fun h => h)
    exact ⟨cs, fz, (X5 _ nb3 (fun he => hnn he.symm)).trans h1⟩
  have z5 := tn5 0
  have npb : Q.pv.ownBlock ≠ some pb := fun he => by have := (hKp _ he).lt; omega
  have nbb : Q.pv.ownBlock ≠ some bb := fun he => by have := (hKp _ he).lt; omega
  have c5' : ∀ k j, k < w3.heap.size → Q.pv.ownBlock ≠ some k → w5.cell? ⟨k, j, none⟩ = w3.cell? ⟨k, j, none⟩ := fun k j hk hn => World.cell?_of_block (a := ⟨k, j, none⟩) (X5 k hk hn)
  have P5 : PartAt w5 ⟨pb, bb, n, true, f⟩ := by
    have hp3 := P3.kind.lt
    have hb3 := P3.kB.lt
    refine ⟨?_, fun j => (World.frozen?_of_block (a := ⟨pb, j, none⟩) (X5 _ hp3 npb)).trans (P3.thaw j), (c5' _ _ hp3 npb).trans P3.c0, (c5' _ _ hp3 npb).trans P3.c1, P3.c4.imp fun c h => ⟨h.1, (c5' _ _ hp3 npb).trans h.2⟩, fun i hi => (c5' _ _ hb3 nbb).trans (P3.bts i hi), ?_, fun j => (World.frozen?_of_block (a := ⟨bb, j, none⟩) (X5 _ hb3 nbb)).trans (P3.tB j), P3.byte, P3.pos⟩
    · obtain ⟨cs, fz, h1⟩ := P3.kind; exact ⟨cs, fz, (X5 _ hp3 npb).trans h1⟩
    · obtain ⟨cs, fz, h1⟩ := P3.kB; exact ⟨cs, fz, (X5 _ hb3 nbb).trans h1⟩
  have O6 : Only (fun k => k = Q.nb ∨ Q.pv.ownBlock = some k) w (w5.setCell ⟨Q.nb, 0, none⟩ (.slice a5 q5 e5)) := Only.setCell (S := fun k => k = Q.nb ∨ Q.pv.ownBlock = some k) O5 (fun _ => .inl rfl) _
  have O56 : Only (· = Q.nb) w5 (w5.setCell ⟨Q.nb, 0, none⟩ (.slice a5 q5 e5)) := Only.setCell (S := (· = Q.nb)) (Only.refl _ _) (fun _ => rfl) _
  have nbn : ¬ bb = Q.nb := fun he => by have := H1.out.kn.lt; omega
  have pbn : ¬ pb = Q.nb := fun he => by have := H1.out.kn.lt; omega
  have hfin := Lib.hid (ref_add H.out (p := ⟨pb, bb, n, true, f⟩) (pv' := .slice a5 q5 e5) O6 (P5.only O56 pbn nbn) (Nat.le_trans hbd.size hpb) (by rw [← hbb]; exact hbd.size) (tn5.setCell _ _) (kn5.setCell _ _) (cell_same _ c5)
    ((by rw [List.map_append]; exact hr5 : RowAt B 106 w5 (.slice a5 q5 e5) ((Q.parts ++ [(⟨pb, bb, n, true, f⟩ : Prt)]).map Prt.ptr)).only O56 fun k hk he => by subst he; exact absurd ((hr5.own hk).1.inj kn5) (by decide)) hB.out)
  have hO6 := Lib.hid O6
  have hq5 : Hid (q5 = Q.parts.length + 1) := Lib.hid (by obtain ⟨a, c, h⟩ := hr5.len; simp at h; exact h.2.1)
  have hv5' : Hid ((Value.slice a5 q5 e5).ownBlock = Q.pv.ownBlock ∨ ∃ k, (Value.slice a5 q5 e5).ownBlock = some k ∧ w.heap.size ≤ k) := Lib.hid (hv5.imp id fun ⟨k, h1, h2⟩ => ⟨k, h1, by simp at h2; have := B3.size; have := hbd.size; omega⟩)
  have hnew : Hid (w.heap.size ≤ pb ∧ w.heap.size ≤ bb) := Lib.hid ⟨Nat.le_trans hbd.size hpb, by rw [← hbb]; exact hbd.size⟩
  clear O6 O56 P5 P3 c5' npb nbb X5 tn5 kn5 tn3 nb3 O5 hr5 hr4 hg5 hv5 hal hap hKp hnn B3 c3 hpb nbn pbn
  refine Reg.take0 (i := 13) (v := ?_) rfl (by kernel_rfl) (by kernel_rfl) (by kernel_rfl) (by kernel_rfl) (fun _ _ _ h => h) (Or.inl ⟨by rfl, ?_⟩) ?_
  rotate_left
  · (intro w _; go_simp; try with_reducible rfl)
  try simp only [Act.put, List.getElem_toArray, List.getElem_cons_succ, List.getElem_cons_zero, List.setIfInBounds_toArray, List.set_cons_zero, List.set_cons_succ]
  refine Reg.take0 (i := 14) (v := ?_) rfl (by kernel_rfl) (by kernel_rfl) (by kernel_rfl) (by kernel_rfl) (fun _ _ _ h => h) (Or.inl ⟨by rfl, ?_⟩) ?_
  rotate_left
  · (intro w _; go_simp; try with_reducible rfl)
  try simp only [Act.put, List.getElem_toArray, List.getElem_cons_succ, List.getElem_cons_zero, List.setIfInBounds_toArray, List.set_cons_zero, List.set_cons_succ]
  refine Reg.only (i := 15) (by kernel_rfl) rfl (fun K hK => ?_)
  go_simp
  refine hK _ _ (fun hb => absurd hb (by decide)) ?_
  clear hK K
  try simp only [Act.put, List.getElem_toArray, List.getElem_cons_succ, List.getElem_cons_zero, List.setIfInBounds_toArray, List.set_cons_zero, List.set_cons_succ]
  refine Reg.done (by kernel_rfl) ?_ _
  have c6 : (w5.setCell ⟨Q.nb, 0, none⟩ (.slice a5 q5 e5)).cell? ⟨Q.nb, 0, none⟩ = some (.slice a5 q5 e5) := cell_same _ c5
  go_wp2_with fail
  go_ret
  exact ⟨q5, rfl, hq5.out, hO6.out, ⟨pb, bb, n, true, f⟩, _, hfin.out, rfl, rfl, rfl, hnew.out.1, hnew.out.2, hv5'.out⟩
end Go.Proofs.Ytmjeloinibembaa
