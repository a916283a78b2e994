/-
  SLICES OF BYTES as a law meets them; help.Lists.
-/
import Derived.Test.YtmjeloinibembaaRingI
import Derived.Test.YtmjeloinibembaaRowB
import Derived.Laws.BytesArg
namespace Go.Proofs.Ytmjeloinibembaa
open Go.RowKit
set_option linter.unusedVariables false
set_option linter.unusedSimpArgs false
/-- a slice of these bytes, in a block that is barred from a ring. -/
def SlB (B : Nat) (Pr : Nat → Prop) (w : World) (v : Value) (l : List Nat) : Prop :=
  (∃ a c, v = .slice a l.length c ∧ (l = [] ∨ ∃ b o, a = some ⟨b, o, none⟩ ∧ Pr b ∧ b < w.heap.size ∧ (b < B ∨ KindAt w b 5) ∧ ∀ (i x : Nat), l[i]? = some x → w.cell? ⟨b, o + i, none⟩ = some (.int .u8 (x : Int)))) ∧ ∀ x ∈ l, x < 256
theorem SlB.mono {B : Nat} {Pr Pr' : Nat → Prop} {w : World} {v : Value} {l : List Nat} (h : SlB B Pr w v l) (hp : ∀ k, k < w.heap.size → Pr k → Pr' k) : SlB B Pr' w v l := by
  obtain ⟨⟨a, c, h1, h2⟩, h3⟩ := h
  refine ⟨⟨a, c, h1, h2.imp id ?_⟩, h3⟩
  rintro ⟨b, o, h4, h5, h6, h7⟩
  exact ⟨b, o, h4, hp _ h6 h5, h6, h7⟩
/-- what changes no block that is barred leaves it. -/
theorem SlB.only {B : Nat} {Pr S : Nat → Prop} {w w' : World} {v : Value} {l : List Nat} (h : SlB B Pr w v l) (ho : Only S w w') (hs : ∀ k, S k → ¬ Pr k) : SlB B Pr w' v l := by
  obtain ⟨⟨a, c, h1, h2⟩, h3⟩ := h
  refine ⟨⟨a, c, h1, h2.imp id ?_⟩, h3⟩
  rintro ⟨b, o, h4, h5, h6, h7, h8⟩
  refine ⟨b, o, h4, h5, Nat.lt_of_lt_of_le h6 ho.size, h7.imp id fun hk => ho.kind _ _ (by decide) hk, fun i x hx => ?_⟩
  rw [ho.cell (p := ⟨b, o + i, none⟩) h6 (fun h => hs _ h h5)]; exact h8 i x hx
/-- a change of a law's own rows leaves it. -/
theorem SlB.rows {B e : Nat} {Pr S : Nat → Prop} {w w' : World} {v : Value} {l : List Nat} (h : SlB B Pr w v l) (ho : Only S w w') (he : e ≠ 5) (hs : ∀ k, S k → B ≤ k ∧ KindAt w k e) : SlB B Pr w' v l := by
  obtain ⟨⟨a, c, h1, h2⟩, h3⟩ := h
  refine ⟨⟨a, c, h1, h2.imp id ?_⟩, h3⟩
  rintro ⟨b, o, h4, h5, h6, h7, h8⟩
  refine ⟨b, o, h4, h5, Nat.lt_of_lt_of_le h6 ho.size, h7.imp id fun hk => ho.kind _ _ (by decide) hk, fun i x hx => ?_⟩
  rw [ho.cell (p := ⟨b, o + i, none⟩) h6 (fun h => ?_)]
  · exact h8 i x hx
  · obtain ⟨h9, h10⟩ := hs _ h
    rcases h7 with h7 | h7
    · exact absurd h7 (by show ¬ b < B; exact Nat.not_lt.2 h9)
    · exact he (h10.inj h7)
theorem SlB.below {B : Nat} {Pr : Nat → Prop} {w w' : World} {v : Value} {l : List Nat} (h : SlB B Pr w v l) (hb : Below w.heap.size w w') : SlB B Pr w' v l :=
  h.only (S := fun _ => False) (Only.of_below hb) fun _ h => h.elim
theorem und30 : Try.prog.underlying 30 = some (.slice 5) := Try.underlying30
theorem SlB.conv {B : Nat} {Pr : Nat → Prop} {w w' : World} {v : Value} {l : List Nat} (h : SlB B Pr w v l) (hw : ∀ q v, w.cell? q = some v → w'.cell? q = some v) : (convert 30 9 v).run Try.prog w' = .ok (.string (strOfNums (l.map Int.ofNat))) w' := by
  obtain ⟨⟨a, c, rfl, h2⟩, h3⟩ := h
  rcases h2 with rfl | ⟨b, o, rfl, _, _, _, h8⟩
  · cases a with
    | none => exact (run_convert_bytes_nil (P := Try.prog) w' 30 5 Try.underlying30 Try.underlying5 0 c 9 Try.underlying9).trans rfl
    | some a =>
      show (convert 30 9 (.slice (some a) 0 c)).run Try.prog w' = _
      rw [run_convert_bytes_string w' 30 9 5 _ 0 c Try.underlying30 Try.underlying5 Try.underlying9, run_bytesToString w' a 0 c [] (by simpa using run_loadCells_list (P := Try.prog) w' a [] (by simp))]
      rfl
  · refine run_convert_bytes_arg (P := Try.prog) w' 30 5 Try.underlying30 Try.underlying5 b o l.length c (l.map Int.ofNat) (by simp) (fun i hi => ?_) 9 Try.underlying9
    rw [hw _ _ (h8 i l[i] (List.getElem?_eq_getElem hi))]
    simp [List.getD, List.getElem?_eq_getElem hi]
/-- slices of these bytes. -/
def SlL (B : Nat) (Pr : Nat → Prop) (w : World) (xs : List Value) (cs : List (List Nat)) : Prop := xs.length = cs.length ∧ ∀ (j : Nat) v l, xs[j]? = some v → cs[j]? = some l → SlB B Pr w v l
theorem SlL.nil (B : Nat) (Pr : Nat → Prop) (w : World) : SlL B Pr w [] [] := ⟨rfl, fun j v l h => by simp at h⟩
theorem SlL.app {B : Nat} {Pr : Nat → Prop} {w : World} {xs ys : List Value} {cs ds : List (List Nat)} (h : SlL B Pr w xs cs) (k : SlL B Pr w ys ds) : SlL B Pr w (xs ++ ys) (cs ++ ds) := by
  refine ⟨by simp [h.1, k.1], fun j v l hv hl => ?_⟩
  by_cases hj : j < xs.length
  · rw [List.getElem?_append_left hj] at hv
    rw [List.getElem?_append_left (by rw [← h.1]; exact hj)] at hl
    exact h.2 j v l hv hl
  · rw [List.getElem?_append_right (by omega)] at hv
    rw [List.getElem?_append_right (by rw [← h.1]; omega), ← h.1] at hl
    exact k.2 _ v l hv hl
theorem SlL.one {B : Nat} {Pr : Nat → Prop} {w : World} {v : Value} {l : List Nat} (h : SlB B Pr w v l) : SlL B Pr w [v] [l] := ⟨rfl, fun j v' l' hv hl => by
  rcases j with _ | j
  · simp at hv hl; subst hv; subst hl; exact h
  · simp at hv⟩
theorem SlL.map {B B' : Nat} {Pr Pr' : Nat → Prop} {w w' : World} {xs : List Value} {cs : List (List Nat)} (h : SlL B Pr w xs cs) (hm : ∀ v l, SlB B Pr w v l → SlB B' Pr' w' v l) : SlL B' Pr' w' xs cs := ⟨h.1, fun j v l hv hl => hm v l (h.2 j v l hv hl)⟩
theorem SlL.cell {B : Nat} {Pr : Nat → Prop} {w : World} {xs : List Value} {cs : List (List Nat)} (h : SlL B Pr w xs cs) : ∀ u ∈ xs, u.oneCell' = true := fun u hu => by
  obtain ⟨j, hj⟩ := List.getElem?_of_mem hu
  have hlt : j < cs.length := by rw [← h.1]; exact (List.getElem?_eq_some_iff.1 hj).1
  obtain ⟨⟨a, c, rfl, _⟩, _⟩ := h.2 j u _ hj (List.getElem?_eq_getElem hlt)
  rfl
set_option maxRecDepth 100000 in
set_option maxHeartbeats 2000000 in
theorem f18_ok (w : World) {Ba Bb B : Nat} {Pr : Nat → Prop} {aa ab : Option Addr} {n ca cb : Nat} {xa xb : List Value} {cs : List (List Nat)} (ha : Hid (RowAt Ba 30 w (.slice aa n ca) xa)) (hb : Hid (RowAt Bb 30 w (.slice ab n cb) xb)) (hn : Hid (xa.length = n ∧ n < 2 ^ 40)) (la : Hid (SlL B Pr w xa cs)) (lb : Hid (SlL B Pr w xb cs)) :
    Calls Try.prog 18 #[.slice aa n ca, .slice ab n cb] w fun e w' => e = .returned (.bool true) ∧ Below w.heap.size w w' := by
  have hn40 := Lib.hid hn.out.2
  go_enter Try.func18, Try.ntmps18
  go_wp2_with fail
  go_loopg [5] n (fun g i wr => ∃ k : Nat, Hid (g = n - k) ∧ k ≤ n ∧ i = .int .i64 k ∧ Hid (Below w.heap.size w wr))
  case atStart => exact ⟨0, Lib.hid rfl, Nat.zero_le _, rfl, Lib.hid (Below.refl _ _)⟩
  case round =>
    obtain ⟨k, hg, hk, rfl, hB⟩ := hrel
    by_cases hlt : k < n
    · have hlt' : (k : Int) < (n : Int) := by omega
      have hxa : k < xa.length := by rw [hn.out.1]; exact hlt
      have hcs : k < cs.length := by rw [← la.out.1]; exact hxa
      have hxb : k < xb.length := by rw [lb.out.1]; exact hcs
      obtain ⟨ga, oa, rfl, -, a0⟩ := ha.out.at' (List.getElem?_eq_getElem hxa)
      obtain ⟨gb, ob, rfl, -, b0⟩ := hb.out.at' (List.getElem?_eq_getElem hxb)
      have sa := la.out.2 k _ _ (List.getElem?_eq_getElem hxa) (List.getElem?_eq_getElem hcs)
      have sb := lb.out.2 k _ _ (List.getElem?_eq_getElem hxb) (List.getElem?_eq_getElem hcs)
      obtain ⟨va, hva⟩ : ∃ v, xa[k] = v := ⟨_, rfl⟩
      obtain ⟨vb, hvb⟩ : ∃ v, xb[k] = v := ⟨_, rfl⟩
      obtain ⟨l, hl⟩ : ∃ l, cs[k] = l := ⟨_, rfl⟩
      rw [hva] at a0 sa
      rw [hvb] at b0 sb
      rw [hl] at sa sb
      obtain ⟨S, hS⟩ : ∃ S, Hid (strOfNums (l.map Int.ofNat) = S) := ⟨_, Lib.hid rfl⟩
      obtain ⟨pa, na, qa, rfl⟩ : ∃ p n q, va = .slice p n q := by obtain ⟨⟨a, c, h, _⟩, _⟩ := sa; exact ⟨_, _, _, h⟩
      obtain ⟨pb, nb, qb, rfl⟩ : ∃ p n q, vb = .slice p n q := by obtain ⟨⟨a, c, h, _⟩, _⟩ := sb; exact ⟨_, _, _, h⟩
      have sa := Lib.hid sa
      have sb := Lib.hid sb
      clear hva hvb hl hxa hcs hxb
      have hf : ∀ w' : World, (∀ q v, w.cell? q = some v → w'.cell? q = some v) → w'.cell? ⟨ga, oa + k, none⟩ = some (.slice pa na qa) ∧ w'.cell? ⟨gb, ob + k, none⟩ = some (.slice pb nb qb) ∧ (convert 30 9 (.slice pa na qa)).run Try.prog w' = .ok (.string S) w' ∧ (convert 30 9 (.slice pb nb qb)).run Try.prog w' = .ok (.string S) w' := fun w' hw => by
        have keep : ∀ v, SlB B Pr w v l → (convert 30 9 v).run Try.prog w' = .ok (.string S) w' := fun v h => hS.out ▸ h.conv hw
        exact ⟨hw _ _ a0, hw _ _ b0, keep _ sa.out, keep _ sb.out⟩
      have hf := Lib.hid hf
      have hfw := Lib.hid (hf.out wr fun q v h => (hB.out.cell (World.block_lt_of_cell? _ _ h)).trans h)
      clear a0 b0
      go_wp2_with fail
      refine Reg.start (S := (fun w' => w'.cell? ⟨ga, oa + k, none⟩ = some (.slice pa na qa) ∧ w'.cell? ⟨gb, ob + k, none⟩ = some (.slice pb nb qb) ∧ (convert 30 9 (.slice pa na qa)).run Try.prog w' = .ok (.string S) w' ∧ (convert 30 9 (.slice pb nb qb)).run Try.prog w' = .ok (.string S) w')) (B := (fun _ => false)) (by kernel_rfl) ?_
      have hfd := hf.out wr.drew fun q v h => (hB.out.cell (World.block_lt_of_cell? _ _ h)).trans h
      have hBd : Hid (Below w.heap.size w wr.drew) := Lib.hid hB.out.drew
      clear hfw
      revert hfd hBd
      generalize wr.drew = w1
      intro hfd hBd
      refine Reg.take0 (i := 0) (v := ?_) rfl (by kernel_rfl) (by kernel_rfl) (by kernel_rfl) (by kernel_rfl) (fun _ _ _ h => h) (Or.inl ⟨by rfl, ?_⟩) ?_
      rotate_left
      · (intro w _; go_simp; try with_reducible rfl)
      try simp only [Act.put, List.getElem_toArray, List.getElem_cons_succ, List.getElem_cons_zero, List.setIfInBounds_toArray, List.set_cons_zero, List.set_cons_succ]
      refine Reg.take0 (i := 1) (v := ?_) rfl (by kernel_rfl) (by kernel_rfl) (by kernel_rfl) (by kernel_rfl) (fun _ _ _ h => h) (Or.inl ⟨by rfl, ?_⟩) ?_
      rotate_left
      · (intro w _; go_simp; try with_reducible rfl)
      try simp only [Act.put, List.getElem_toArray, List.getElem_cons_succ, List.getElem_cons_zero, List.setIfInBounds_toArray, List.set_cons_zero, List.set_cons_succ]
      refine Reg.take0 (i := 2) (v := ?_) rfl (by kernel_rfl) (by kernel_rfl) (by kernel_rfl) (by kernel_rfl) (fun _ _ _ h => h) (Or.inl ⟨by rfl, ?_⟩) ?_
      rotate_left
      · (intro w _; go_simp; try with_reducible rfl)
      try simp only [Act.put, List.getElem_toArray, List.getElem_cons_succ, List.getElem_cons_zero, List.setIfInBounds_toArray, List.set_cons_zero, List.set_cons_succ]
      refine Reg.take1 (i := 3) (v := ?_) rfl (by kernel_rfl) (by kernel_rfl) (by kernel_rfl) (by kernel_rfl) (by kernel_rfl) (fun _ _ _ h => h) (Or.inl ⟨by rfl, ?_⟩) hfd ?_
      rotate_left
      · (intro w hS; obtain ⟨hs1, hs2, hs3, hs4⟩ := hS; go_simp; try with_reducible rfl)
      try simp only [Act.put, List.getElem_toArray, List.getElem_cons_succ, List.getElem_cons_zero, List.setIfInBounds_toArray, List.set_cons_zero, List.set_cons_succ]
      refine Reg.take1 (i := 4) (v := ?_) rfl (by kernel_rfl) (by kernel_rfl) (by kernel_rfl) (by kernel_rfl) (by kernel_rfl) (fun _ _ _ h => h) (Or.inl ⟨by rfl, ?_⟩) hfd ?_
      rotate_left
      · (intro w hS; obtain ⟨hs1, hs2, hs3, hs4⟩ := hS; go_simp; try with_reducible rfl)
      try simp only [Act.put, List.getElem_toArray, List.getElem_cons_succ, List.getElem_cons_zero, List.setIfInBounds_toArray, List.set_cons_zero, List.set_cons_succ]
      refine Reg.take0 (i := 5) (v := ?_) rfl (by kernel_rfl) (by kernel_rfl) (by kernel_rfl) (by kernel_rfl) (fun _ _ _ h => h) (Or.inl ⟨by rfl, ?_⟩) ?_
      rotate_left
      · (intro w _; go_simp; try with_reducible rfl)
      try simp only [Act.put, List.getElem_toArray, List.getElem_cons_succ, List.getElem_cons_zero, List.setIfInBounds_toArray, List.set_cons_zero, List.set_cons_succ]
      refine Reg.take0 (i := 6) (v := ?_) rfl (by kernel_rfl) (by kernel_rfl) (by kernel_rfl) (by kernel_rfl) (fun _ _ _ h => h) (Or.inl ⟨by rfl, ?_⟩) ?_
      rotate_left
      · (intro w _; go_simp; try with_reducible rfl)
      try simp only [Act.put, List.getElem_toArray, List.getElem_cons_succ, List.getElem_cons_zero, List.setIfInBounds_toArray, List.set_cons_zero, List.set_cons_succ]
      refine Reg.take0 (i := 7) (v := ?_) rfl (by kernel_rfl) (by kernel_rfl) (by kernel_rfl) (by kernel_rfl) (fun _ _ _ h => h) (Or.inl ⟨by rfl, ?_⟩) ?_
      rotate_left
      · (intro w _; go_simp; try with_reducible rfl)
      try simp only [Act.put, List.getElem_toArray, List.getElem_cons_succ, List.getElem_cons_zero, List.setIfInBounds_toArray, List.set_cons_zero, List.set_cons_succ]
      refine Reg.take1 (i := 8) (v := ?_) rfl (by kernel_rfl) (by kernel_rfl) (by kernel_rfl) (by kernel_rfl) (by kernel_rfl) (fun _ _ _ h => h) (Or.inl ⟨by rfl, ?_⟩) hfd ?_
      rotate_left
      · (intro w hS; obtain ⟨hs1, hs2, hs3, hs4⟩ := hS; go_simp; try with_reducible rfl)
      try simp only [Act.put, List.getElem_toArray, List.getElem_cons_succ, List.getElem_cons_zero, List.setIfInBounds_toArray, List.set_cons_zero, List.set_cons_succ]
      refine Reg.take1 (i := 9) (v := ?_) rfl (by kernel_rfl) (by kernel_rfl) (by kernel_rfl) (by kernel_rfl) (by kernel_rfl) (fun _ _ _ h => h) (Or.inl ⟨by rfl, ?_⟩) hfd ?_
      rotate_left
      · (intro w hS; obtain ⟨hs1, hs2, hs3, hs4⟩ := hS; go_simp; try with_reducible rfl)
      try simp only [Act.put, List.getElem_toArray, List.getElem_cons_succ, List.getElem_cons_zero, List.setIfInBounds_toArray, List.set_cons_zero, List.set_cons_succ]
      refine Reg.take0 (i := 10) (v := ?_) rfl (by kernel_rfl) (by kernel_rfl) (by kernel_rfl) (by kernel_rfl) (fun _ _ _ h => h) (Or.inl ⟨by rfl, ?_⟩) ?_
      rotate_left
      · (intro w _; go_simp; try with_reducible rfl)
      try simp only [Act.put, List.getElem_toArray, List.getElem_cons_succ, List.getElem_cons_zero, List.setIfInBounds_toArray, List.set_cons_zero, List.set_cons_succ]
      refine Reg.done (by kernel_rfl) ?_ _
      have hn40' := hn40.out
      go_wp2_with fail
      go_roundg (n - (k + 1))
      case measure => rw [hg.out]; omega
      case rel => exact ⟨k + 1, Lib.hid rfl, hlt, by go_num, hBd⟩
    · have : k = n := by omega
      subst this
      go_wp2_with fail
      go_ret
      exact ⟨rfl, hB.out⟩
end Go.Proofs.Ytmjeloinibembaa
