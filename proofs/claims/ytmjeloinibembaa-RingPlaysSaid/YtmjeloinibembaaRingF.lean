/-
  RINGS: Read.
-/
import Derived.Test.YtmjeloinibembaaRingD
import Derived.Deep.LoopGhost
namespace Go.Proofs.Ytmjeloinibembaa
open Go.RowKit
set_option linter.unusedVariables false
set_option linter.unusedSimpArgs false
theorem info30r : Try.prog.underlying 32 = some (.slice 30) := by kernel_rfl
/-- what a reader gets of a record. -/
def Rec.outV (r : Rec) : Value := .slice (some ⟨r.bs, 0, none⟩) r.n r.n
def outsOf (tk : List Rec) : List Value := (tk.filter fun r => r.st == 1).map Rec.outV
theorem outs_snoc1 {tk : List Rec} {r : Rec} (h : r.st = 1) : outsOf (tk ++ [r]) = outsOf tk ++ [r.outV] := by simp [outsOf, h]
theorem outs_snoc0 {tk : List Rec} {r : Rec} (h : r.st ≠ 1) : outsOf (tk ++ [r]) = outsOf tk := by simp [outsOf, h]
theorem outs_len (tk : List Rec) : (outsOf tk).length ≤ tk.length := by unfold outsOf; rw [List.length_map]; exact List.length_filter_le _ _
/-- what is barred when some are read. -/
def Given (Pr : Nat → Prop) (tk : List Rec) (V : Value) (k : Nat) : Prop := Pr k ∨ (∃ r ∈ tk, k = r.bs) ∨ V.ownBlock = some k
theorem RingAt.bar {B : Nat} {Pr Pr' : Nat → Prop} {w : World} {R : RingS} (h : RingAt B Pr w R) (hl : ∀ k, k < B → Pr' k) (hp : ∀ k, Pr' k → Pr k) : RingAt B Pr' w R :=
  h.law (S := fun _ => False) (Only.refl _ _) (fun _ h => h.elim) hl fun k hk => ⟨h.prlt k (hp k hk), .inl (hp k hk)⟩
set_option maxRecDepth 100000 in
set_option maxHeartbeats 4000000 in
theorem f17_ok {B : Nat} {Pr : Nat → Prop} (w : World) {R : RingS} (H : Hid (RingAt B Pr w R)) :
    Calls Try.prog 17 #[.pointer (some ⟨R.rg, 0, none⟩)] w fun e w' => ∃ V : Value, e = .returned V ∧ ∃ (rv' : Value) (tk rest : List Rec), R.rows = tk ++ rest ∧ (∀ r ∈ tk, r.st ≠ 0) ∧ (∀ r, rest.head? = some r → r.st = 0) ∧
      RowAt w.heap.size 30 w' V (outsOf tk) ∧ RingAt B (Given Pr tk V) w' { R with rows := rest, rv := rv' } ∧ Only (· = R.rg) w w' := by
  go_enter Try.func17, Try.ntmps17
  go_wp2_with fail
  go_loopg [3, 4] R.rows.length (fun g V x wr => ∃ (tk rest : List Rec) (rv' : Value), Hid (g = rest.length) ∧ Hid (R.rows = tk ++ rest) ∧ Hid (∀ r ∈ tk, r.st ≠ 0) ∧ Hid (RowAt w.heap.size 30 wr V (outsOf tk)) ∧ Hid (RingAt B (Given Pr tk V) wr { R with rows := rest, rv := rv' }) ∧ Hid (Only (· = R.rg) w wr))
  case atStart => exact ⟨[], R.rows, R.rv, Lib.hid rfl, Lib.hid rfl, Lib.hid (by simp), Lib.hid (RowAt.nil _ _ _), Lib.hid (H.out.bar (fun k hk => .inl (H.out.low k hk)) fun k hk => by
    rcases hk with hk | ⟨r, hr, _⟩ | hk
    · exact hk
    · simp at hr
    · simp [Value.ownBlock] at hk), Lib.hid (Only.refl _ _)⟩
  case round =>
    obtain ⟨tk, rest, rv', hg, hrows, htk, hV, HW, hO⟩ := hrel
    obtain ⟨a, c, hrv⟩ := HW.out.row.len
    rcases rest with _ | ⟨r, rest⟩
    · simp only [List.map_nil, List.length_nil] at hrv
      subst hrv
      have c3 := HW.out.c3
      simp only at c3
      go_wp2_with fail
      go_ret
      exact ⟨_, rfl, _, tk, [], hrows.out, htk.out, by simp, hV.out, HW.out, hO.out⟩
    · simp only [List.length_map, List.length_cons] at hrv
      obtain ⟨q, hq⟩ : ∃ q, Hid (rest.length + 1 = q) := ⟨_, Lib.hid rfl⟩
      rw [hq.out] at hrv
      subst hrv
      have hq0 : (0 : Int) < (q : Int) := by have := hq.out; omega
      obtain ⟨g, o, rfl, hzz, hx0⟩ := HW.out.row.at' (j := 0) rfl
      clear hzz
      have hq1 : (1 : Int) ≤ (q : Int) := by omega
      simp only [Nat.add_zero, Rec.ptr] at hx0
      have hrec := Lib.hid (HW.out.recs r (by simp))
      have c3 := HW.out.c3
      have k2 := hrec.out.c2
      simp only at c3
      by_cases h0 : r.st = 0
      · rw [h0] at k2
        go_wp2_with fail
        go_ret
        exact ⟨_, rfl, _, tk, r :: rest, hrows.out, htk.out, by simp [h0], hV.out, HW.out, hO.out⟩
      · have h0 := Lib.hid h0
        obtain ⟨n, hn⟩ : ∃ n, Hid (r.n = n) := ⟨_, Lib.hid rfl⟩
        obtain ⟨bs, hbs⟩ : ∃ bs, Hid (r.bs = bs) := ⟨_, Lib.hid rfl⟩
        obtain ⟨cc, hcc, k3⟩ := (hrec.out.done h0.out).1
        have k1 := hrec.out.c1
        rw [hn.out] at k1 k3 hcc
        rw [hbs.out] at k3
        obtain ⟨ad, had⟩ : ∃ ad, Hid ((if c = 1 then some ⟨g, o, none⟩ else some ⟨g, o + 1, none⟩ : Option Addr) = ad) := ⟨_, Lib.hid rfl⟩
        obtain ⟨u, hu⟩ : ∃ u, Hid (usedN (r :: rest) = u) := ⟨_, Lib.hid rfl⟩
        obtain ⟨u2, hu2⟩ : ∃ u2, Hid (usedN rest = u2) := ⟨_, Lib.hid rfl⟩
        have hn4 : n ≤ 4096 := hn.out ▸ hrec.out.pos.2
        have euu : IntKind.i64.wrap ((u : Int) - (takesN n : Int)) = (u2 : Int) := by
          have h1 := hu.out
          rw [usedN_cons, hu2.out, hn.out] at h1
          have h2 := HW.out.fits.1
          have h3 := HW.out.fits.2
          simp only [hu.out] at h2 h3
          rw [IntKind.wrap_i64]; omega
        by_cases h1 : r.st = 1
        · rw [h1] at k2
          have h1 := Lib.hid h1
          go_wp2_with fail
          refine Reg.start (S := (fun w' => w'.cell? ⟨r.xb, 3, none⟩ = some (.slice (some ⟨bs, 0, none⟩) n cc) ∧ w'.cell? ⟨r.xb, 1, none⟩ = some (.int .i64 (n : Int)))) (B := (fun _ => false)) (by kernel_rfl) ?_
          have hbd : Below wr.heap.size wr wr.drew := (Below.refl _ _).drew
          have HW1 := Lib.hid (HW.out.below hbd)
          have hV1 := Lib.hid (hV.out.below hbd)
          have hO1 := Lib.hid (hO.out.drew)
          have j3 : wr.drew.cell? ⟨r.xb, 3, none⟩ = some (.slice (some ⟨bs, 0, none⟩) n cc) := k3
          have j1 : wr.drew.cell? ⟨r.xb, 1, none⟩ = some (.int .i64 (n : Int)) := k1
          revert hbd HW1 hV1 hO1 j3 j1
          generalize wr.drew = w1
          intro hbd HW1 hV1 hO1 j3 j1
          refine Reg.take0 (i := 0) (v := ?_) rfl (by kernel_rfl) (by kernel_rfl) (by kernel_rfl) (by kernel_rfl) (fun _ _ _ h => h) (Or.inl ⟨by rfl, ?_⟩) ?_
          rotate_left
          · (intro w _; go_simp; try with_reducible rfl)
          try simp only [Act.put, List.getElem_toArray, List.getElem_cons_succ, List.getElem_cons_zero, List.setIfInBounds_toArray, List.set_cons_zero, List.set_cons_succ]
          refine Reg.take0 (i := 1) (v := ?_) rfl (by kernel_rfl) (by kernel_rfl) (by kernel_rfl) (by kernel_rfl) (fun _ _ _ h => h) (Or.inl ⟨by rfl, ?_⟩) ?_
          rotate_left
          · (intro w _; go_simp; try with_reducible rfl)
          try simp only [Act.put, List.getElem_toArray, List.getElem_cons_succ, List.getElem_cons_zero, List.setIfInBounds_toArray, List.set_cons_zero, List.set_cons_succ]
          refine Reg.take0 (i := 2) (v := ?_) rfl (by kernel_rfl) (by kernel_rfl) (by kernel_rfl) (by kernel_rfl) (fun _ _ _ h => h) (Or.inl ⟨by rfl, ?_⟩) ?_
          rotate_left
          · (intro w _; go_simp; try with_reducible rfl)
          try simp only [Act.put, List.getElem_toArray, List.getElem_cons_succ, List.getElem_cons_zero, List.setIfInBounds_toArray, List.set_cons_zero, List.set_cons_succ]
          refine Reg.take0 (i := 3) (v := ?_) rfl (by kernel_rfl) (by kernel_rfl) (by kernel_rfl) (by kernel_rfl) (fun _ _ _ h => h) (Or.inl ⟨by rfl, ?_⟩) ?_
          rotate_left
          · (intro w _; go_simp; try with_reducible rfl)
          try simp only [Act.put, List.getElem_toArray, List.getElem_cons_succ, List.getElem_cons_zero, List.setIfInBounds_toArray, List.set_cons_zero, List.set_cons_succ]
          refine Reg.take1 (i := 4) (v := ?_) rfl (by kernel_rfl) (by kernel_rfl) (by kernel_rfl) (by kernel_rfl) (by kernel_rfl) (fun _ _ _ h => h) (Or.inl ⟨by rfl, ?_⟩) ⟨j3, j1⟩ ?_
          rotate_left
          · (intro w hS; obtain ⟨hs1, hs2⟩ := hS; go_simp; try with_reducible rfl)
          try simp only [Act.put, List.getElem_toArray, List.getElem_cons_succ, List.getElem_cons_zero, List.setIfInBounds_toArray, List.set_cons_zero, List.set_cons_succ]
          refine Reg.take0 (i := 5) (v := ?_) rfl (by kernel_rfl) (by kernel_rfl) (by kernel_rfl) (by kernel_rfl) (fun _ _ _ h => h) (Or.inl ⟨by rfl, ?_⟩) ?_
          rotate_left
          · (intro w _; go_simp; try with_reducible rfl)
          try simp only [Act.put, List.getElem_toArray, List.getElem_cons_succ, List.getElem_cons_zero, List.setIfInBounds_toArray, List.set_cons_zero, List.set_cons_succ]
          refine Reg.take0 (i := 6) (v := ?_) rfl (by kernel_rfl) (by kernel_rfl) (by kernel_rfl) (by kernel_rfl) (fun _ _ _ h => h) (Or.inl ⟨by rfl, ?_⟩) ?_
          rotate_left
          · (intro w _; go_simp; try with_reducible rfl)
          try simp only [Act.put, List.getElem_toArray, List.getElem_cons_succ, List.getElem_cons_zero, List.setIfInBounds_toArray, List.set_cons_zero, List.set_cons_succ]
          refine Reg.take0 (i := 7) (v := ?_) rfl (by kernel_rfl) (by kernel_rfl) (by kernel_rfl) (by kernel_rfl) (fun _ _ _ h => h) (Or.inl ⟨by rfl, ?_⟩) ?_
          rotate_left
          · (intro w _; go_simp; try with_reducible rfl)
          try simp only [Act.put, List.getElem_toArray, List.getElem_cons_succ, List.getElem_cons_zero, List.setIfInBounds_toArray, List.set_cons_zero, List.set_cons_succ]
          refine Reg.take1 (i := 8) (v := ?_) rfl (by kernel_rfl) (by kernel_rfl) (by kernel_rfl) (by kernel_rfl) (by kernel_rfl) (fun _ _ _ h => h) (Or.inl ⟨by rfl, ?_⟩) ⟨j3, j1⟩ ?_
          rotate_left
          · (intro w hS; obtain ⟨hs1, hs2⟩ := hS; go_simp; try with_reducible rfl)
          try simp only [Act.put, List.getElem_toArray, List.getElem_cons_succ, List.getElem_cons_zero, List.setIfInBounds_toArray, List.set_cons_zero, List.set_cons_succ]
          refine Reg.take0 (i := 9) (v := ?_) rfl (by kernel_rfl) (by kernel_rfl) (by kernel_rfl) (by kernel_rfl) (fun _ _ _ h => h) (Or.inl ⟨by rfl, ?_⟩) ?_
          rotate_left
          · (intro w _; go_simp; try with_reducible rfl)
          try simp only [Act.put, List.getElem_toArray, List.getElem_cons_succ, List.getElem_cons_zero, List.setIfInBounds_toArray, List.set_cons_zero, List.set_cons_succ]
          refine Reg.take0 (i := 10) (v := ?_) rfl (by kernel_rfl) (by kernel_rfl) (by kernel_rfl) (by kernel_rfl) (fun _ _ _ h => h) (Or.inl ⟨by rfl, ?_⟩) ?_
          rotate_left
          · (intro w _; go_simp; try with_reducible rfl)
          try simp only [Act.put, List.getElem_toArray, List.getElem_cons_succ, List.getElem_cons_zero, List.setIfInBounds_toArray, List.set_cons_zero, List.set_cons_succ]
          refine Reg.take0 (i := 11) (v := ?_) rfl (by kernel_rfl) (by kernel_rfl) (by kernel_rfl) (by kernel_rfl) (fun _ _ _ h => h) (Or.inl ⟨by rfl, ?_⟩) ?_
          rotate_left
          · (intro w _; go_simp; try with_reducible rfl)
          try simp only [Act.put, List.getElem_toArray, List.getElem_cons_succ, List.getElem_cons_zero, List.setIfInBounds_toArray, List.set_cons_zero, List.set_cons_succ]
          refine Reg.take1 (i := 12) (v := ?_) rfl (by kernel_rfl) (by kernel_rfl) (by kernel_rfl) (by kernel_rfl) (by kernel_rfl) (fun _ _ _ h => h) (Or.inl ⟨by rfl, ?_⟩) ⟨j3, j1⟩ ?_
          rotate_left
          · (intro w hS; obtain ⟨hs1, hs2⟩ := hS; go_simp; try with_reducible rfl)
          try simp only [Act.put, List.getElem_toArray, List.getElem_cons_succ, List.getElem_cons_zero, List.setIfInBounds_toArray, List.set_cons_zero, List.set_cons_succ]
          refine Reg.take0 (i := 13) (v := ?_) rfl (by kernel_rfl) (by kernel_rfl) (by kernel_rfl) (by kernel_rfl) (fun _ _ _ h => h) (Or.inl ⟨by rfl, ?_⟩) ?_
          rotate_left
          · (intro w _; go_simp; try with_reducible rfl)
          try simp only [Act.put, List.getElem_toArray, List.getElem_cons_succ, List.getElem_cons_zero, List.setIfInBounds_toArray, List.set_cons_zero, List.set_cons_succ]
          refine Reg.only (i := 14) (by kernel_rfl) rfl (fun K hK => ?_)
          go_simp
          refine hK _ _ (fun _ hS => ⟨kpa hS.1, kpa hS.2⟩) ?_
          clear hK K
          try simp only [Act.put, List.getElem_toArray, List.getElem_cons_succ, List.getElem_cons_zero, List.setIfInBounds_toArray, List.set_cons_zero, List.set_cons_succ]
          have hB1 : w.heap.size ≤ w1.heap.size := hO1.out.size
          have hal := Below.one (w := w1) (.cells #[.slice (some ⟨bs, 0, none⟩) n n] 30)
          obtain ⟨V', w2, hap, hV2, hg2, hvv⟩ := (hV1.out.below hal).append (t := 32) (by simp; omega) Try.t30 (.slice none 0 0) 24 Try.underlying32 info30 zero30 size30 bytes30 rfl (by decide)
            (Nat.lt_of_le_of_lt (outs_len tk) (by have h1 := usedN_len H.out; rw [hrows.out, List.length_append] at h1; omega)) (.slice (some ⟨bs, 0, none⟩) n n) rfl (nb := w1.heap.size) (by rw [World.cell?_alloc_at _ _ _ _ rfl]; rfl) (fun he => by have := (hV1.out.own he).1.lt; omega)
          have hap := hap 32
          have hKv : ∀ k, u3.ownBlock = some k → KindAt (w1.alloc (.cells #[.slice (some ⟨bs, 0, none⟩) n n] 30)) k 30 := fun k hk => ((hV1.out.own hk).1).alloc _
          have hnx : some r.xb ≠ u3.ownBlock := fun he => absurd ((hKv _ he.symm).inj ((HW1.out.recs r (by simp)).kind.alloc _)) (by decide)
          refine Reg.only (i := 15) (by kernel_rfl) rfl (fun K hK => ?_)
          rw [if_pos (by rfl)]
          refine wp_append_run (.tmp 34) (.tmp 48) 32 rfl _ _ _ rfl rfl hap ?_
          refine hK _ _ (fun _ hS => ⟨hg2.cell hS.1 hnx, hg2.cell hS.2 hnx⟩) ?_
          clear hK K
          try simp only [Act.put, List.getElem_toArray, List.getElem_cons_succ, List.getElem_cons_zero, List.setIfInBounds_toArray, List.set_cons_zero, List.set_cons_succ]
          refine Reg.take0 (i := 16) (v := ?_) rfl (by kernel_rfl) (by kernel_rfl) (by kernel_rfl) (by kernel_rfl) (fun _ _ _ h => h) (Or.inl ⟨by rfl, ?_⟩) ?_
          rotate_left
          · (intro w _; go_simp; try with_reducible rfl)
          try simp only [Act.put, List.getElem_toArray, List.getElem_cons_succ, List.getElem_cons_zero, List.setIfInBounds_toArray, List.set_cons_zero, List.set_cons_succ]
          refine Reg.done (by kernel_rfl) ?_ _
          have OX : Only (fun k => u3.ownBlock = some k) w1 w2 := ((Only.refl _ w1).alloc (.cells #[.slice (some ⟨bs, 0, none⟩) n n] 30)).grown hg2 fun k hk => ⟨fun _ => hk, .inr ⟨30, by decide, hKv k hk⟩⟩
          have HW2 : Hid (RingAt B (Given Pr tk V') w2 { R with rows := r :: rest, rv := .slice (some ⟨g, o, none⟩) q c }) := Lib.hid (HW1.out.law OX (fun k hk => .inr (.inr hk)) (fun k hk => .inl (H.out.low k hk)) fun k hk => by
            rcases hk with hk | hk | hk
            · exact ⟨Nat.lt_of_lt_of_le (HW1.out.prlt k (.inl hk)) OX.size, .inl (.inl hk)⟩
            · exact ⟨Nat.lt_of_lt_of_le (HW1.out.prlt k (.inr (.inl hk))) OX.size, .inl (.inr (.inl hk))⟩
            · refine ⟨(hV2.own hk).1.lt, ?_⟩
              rcases hvv with h2 | ⟨k', h2, h3⟩
              · exact .inl (.inr (.inr (h2 ▸ hk)))
              · rw [h2] at hk; obtain rfl := Option.some.inj hk
                exact .inr (by simp at h3; omega))
          have hO2 : Hid (Only (· = R.rg) w w2) := Lib.hid (hO1.out.then OX fun k hk he => by have := (hV1.out.own he).2; omega)
          have hV2 : Hid (RowAt w.heap.size 30 w2 V' (outsOf (tk ++ [r]))) := Lib.hid (by rw [outs_snoc1 h1.out]; unfold Rec.outV; rw [hn.out, hbs.out]; exact hV2)
          clear OX hKv hnx hap hg2 hvv hal hB1 HW1 hV1 hO1 j3 j1 hbd
          go_wp2_with fail
          refine Reg.start (S := (fun w' => w'.cell? ⟨R.rg, 3, none⟩ = some (.slice (some ⟨g, o, none⟩) q c) ∧ w'.cell? ⟨R.rg, 1, none⟩ = some (.int .i64 (u : Int)) ∧ w'.cell? ⟨r.xb, 1, none⟩ = some (.int .i64 (n : Int)))) (B := (fun j => [19, 22].contains j)) (by kernel_rfl) ?_
          have hbd3 : Below w2.heap.size w2 w2.drew := (Below.refl _ _).drew
          have HW3 := Lib.hid (HW2.out.below hbd3)
          have hV3 := Lib.hid (hV2.out.below hbd3)
          have hO3 := Lib.hid (hO2.out.drew)
          have b3 : w2.drew.cell? ⟨R.rg, 3, none⟩ = some (.slice (some ⟨g, o, none⟩) q c) := HW3.out.c3
          have b1 : w2.drew.cell? ⟨R.rg, 1, none⟩ = some (.int .i64 (u : Int)) := hu.out ▸ HW3.out.c1
          have b0 : w2.drew.cell? ⟨r.xb, 1, none⟩ = some (.int .i64 (n : Int)) := hn.out ▸ (HW3.out.recs r (by simp)).c1
          have z3 : w2.drew.frozen? ⟨R.rg, 3, none⟩ = false := HW3.out.thaw 3
          have z1 : w2.drew.frozen? ⟨R.rg, 1, none⟩ = false := HW3.out.thaw 1
          revert hbd3 HW3 hV3 hO3 b3 b1 b0 z3 z1
          generalize w2.drew = w3
          intro hbd3 HW3 hV3 hO3 b3 b1 b0 z3 z1
          refine Reg.take0 (i := 0) (v := ?_) rfl (by kernel_rfl) (by kernel_rfl) (by kernel_rfl) (by kernel_rfl) (fun _ _ _ h => h) (Or.inl ⟨by rfl, ?_⟩) ?_
          rotate_left
          · (intro w _; go_simp; try with_reducible rfl)
          try simp only [Act.put, List.getElem_toArray, List.getElem_cons_succ, List.getElem_cons_zero, List.setIfInBounds_toArray, List.set_cons_zero, List.set_cons_succ]
          refine Reg.take0 (i := 1) (v := ?_) rfl (by kernel_rfl) (by kernel_rfl) (by kernel_rfl) (by kernel_rfl) (fun _ _ _ h => h) (Or.inl ⟨by rfl, ?_⟩) ?_
          rotate_left
          · (intro w _; go_simp; try with_reducible rfl)
          try simp only [Act.put, List.getElem_toArray, List.getElem_cons_succ, List.getElem_cons_zero, List.setIfInBounds_toArray, List.set_cons_zero, List.set_cons_succ]
          refine Reg.take0 (i := 2) (v := ?_) rfl (by kernel_rfl) (by kernel_rfl) (by kernel_rfl) (by kernel_rfl) (fun _ _ _ h => h) (Or.inl ⟨by rfl, ?_⟩) ?_
          rotate_left
          · (intro w _; go_simp; try with_reducible rfl)
          try simp only [Act.put, List.getElem_toArray, List.getElem_cons_succ, List.getElem_cons_zero, List.setIfInBounds_toArray, List.set_cons_zero, List.set_cons_succ]
          refine Reg.take0 (i := 3) (v := ?_) rfl (by kernel_rfl) (by kernel_rfl) (by kernel_rfl) (by kernel_rfl) (fun _ _ _ h => h) (Or.inl ⟨by rfl, ?_⟩) ?_
          rotate_left
          · (intro w _; go_simp; try with_reducible rfl)
          try simp only [Act.put, List.getElem_toArray, List.getElem_cons_succ, List.getElem_cons_zero, List.setIfInBounds_toArray, List.set_cons_zero, List.set_cons_succ]
          refine Reg.take0 (i := 4) (v := ?_) rfl (by kernel_rfl) (by kernel_rfl) (by kernel_rfl) (by kernel_rfl) (fun _ _ _ h => h) (Or.inl ⟨by rfl, ?_⟩) ?_
          rotate_left
          · (intro w _; go_simp; try with_reducible rfl)
          try simp only [Act.put, List.getElem_toArray, List.getElem_cons_succ, List.getElem_cons_zero, List.setIfInBounds_toArray, List.set_cons_zero, List.set_cons_succ]
          refine Reg.take1 (i := 5) (v := ?_) rfl (by kernel_rfl) (by kernel_rfl) (by kernel_rfl) (by kernel_rfl) (by kernel_rfl) (fun _ _ _ h => h) (Or.inl ⟨by rfl, ?_⟩) ⟨b3, b1, b0⟩ ?_
          rotate_left
          · (intro w hS; obtain ⟨hs1, hs2, hs3⟩ := hS; go_simp; try with_reducible rfl)
          try simp only [Act.put, List.getElem_toArray, List.getElem_cons_succ, List.getElem_cons_zero, List.setIfInBounds_toArray, List.set_cons_zero, List.set_cons_succ]
          refine Reg.take0 (i := 6) (v := .slice ad (q - 1) (c - 1)) rfl (by kernel_rfl) (by kernel_rfl) (by kernel_rfl) (by kernel_rfl) (fun _ _ _ h => h) (Or.inl ⟨by rfl, ?_⟩) ?_
          · (intro w _; go_simp; try (first | exact had.out | rw [had.out]); try with_reducible rfl)
          try simp only [Act.put, List.getElem_toArray, List.getElem_cons_succ, List.getElem_cons_zero, List.setIfInBounds_toArray, List.set_cons_zero, List.set_cons_succ]
          refine Reg.take0 (i := 7) (v := ?_) rfl (by kernel_rfl) (by kernel_rfl) (by kernel_rfl) (by kernel_rfl) (fun _ _ _ h => h) (Or.inl ⟨by rfl, ?_⟩) ?_
          rotate_left
          · (intro w _; go_simp; try with_reducible rfl)
          try simp only [Act.put, List.getElem_toArray, List.getElem_cons_succ, List.getElem_cons_zero, List.setIfInBounds_toArray, List.set_cons_zero, List.set_cons_succ]
          refine Reg.take0 (i := 8) (v := ?_) rfl (by kernel_rfl) (by kernel_rfl) (by kernel_rfl) (by kernel_rfl) (fun _ _ _ h => h) (Or.inl ⟨by rfl, ?_⟩) ?_
          rotate_left
          · (intro w _; go_simp; try with_reducible rfl)
          try simp only [Act.put, List.getElem_toArray, List.getElem_cons_succ, List.getElem_cons_zero, List.setIfInBounds_toArray, List.set_cons_zero, List.set_cons_succ]
          refine Reg.take0 (i := 9) (v := ?_) rfl (by kernel_rfl) (by kernel_rfl) (by kernel_rfl) (by kernel_rfl) (fun _ _ _ h => h) (Or.inl ⟨by rfl, ?_⟩) ?_
          rotate_left
          · (intro w _; go_simp; try with_reducible rfl)
          try simp only [Act.put, List.getElem_toArray, List.getElem_cons_succ, List.getElem_cons_zero, List.setIfInBounds_toArray, List.set_cons_zero, List.set_cons_succ]
          refine Reg.take1 (i := 10) (v := ?_) rfl (by kernel_rfl) (by kernel_rfl) (by kernel_rfl) (by kernel_rfl) (by kernel_rfl) (fun _ _ _ h => h) (Or.inl ⟨by rfl, ?_⟩) ⟨b3, b1, b0⟩ ?_
          rotate_left
          · (intro w hS; obtain ⟨hs1, hs2, hs3⟩ := hS; go_simp; try with_reducible rfl)
          try simp only [Act.put, List.getElem_toArray, List.getElem_cons_succ, List.getElem_cons_zero, List.setIfInBounds_toArray, List.set_cons_zero, List.set_cons_succ]
          refine Reg.take0 (i := 11) (v := ?_) rfl (by kernel_rfl) (by kernel_rfl) (by kernel_rfl) (by kernel_rfl) (fun _ _ _ h => h) (Or.inl ⟨by rfl, ?_⟩) ?_
          rotate_left
          · (intro w _; go_simp; try with_reducible rfl)
          try simp only [Act.put, List.getElem_toArray, List.getElem_cons_succ, List.getElem_cons_zero, List.setIfInBounds_toArray, List.set_cons_zero, List.set_cons_succ]
          refine Reg.take0 (i := 12) (v := ?_) rfl (by kernel_rfl) (by kernel_rfl) (by kernel_rfl) (by kernel_rfl) (fun _ _ _ h => h) (Or.inl ⟨by rfl, ?_⟩) ?_
          rotate_left
          · (intro w _; go_simp; try with_reducible rfl)
          try simp only [Act.put, List.getElem_toArray, List.getElem_cons_succ, List.getElem_cons_zero, List.setIfInBounds_toArray, List.set_cons_zero, List.set_cons_succ]
          refine Reg.take0 (i := 13) (v := ?_) rfl (by kernel_rfl) (by kernel_rfl) (by kernel_rfl) (by kernel_rfl) (fun _ _ _ h => h) (Or.inl ⟨by rfl, ?_⟩) ?_
          rotate_left
          · (intro w _; go_simp; try with_reducible rfl)
          try simp only [Act.put, List.getElem_toArray, List.getElem_cons_succ, List.getElem_cons_zero, List.setIfInBounds_toArray, List.set_cons_zero, List.set_cons_succ]
          refine Reg.take1 (i := 14) (v := ?_) rfl (by kernel_rfl) (by kernel_rfl) (by kernel_rfl) (by kernel_rfl) (by kernel_rfl) (fun _ _ _ h => h) (Or.inl ⟨by rfl, ?_⟩) ⟨b3, b1, b0⟩ ?_
          rotate_left
          · (intro w hS; obtain ⟨hs1, hs2, hs3⟩ := hS; go_simp; try with_reducible rfl)
          try simp only [Act.put, List.getElem_toArray, List.getElem_cons_succ, List.getElem_cons_zero, List.setIfInBounds_toArray, List.set_cons_zero, List.set_cons_succ]
          refine Reg.only (i := 15) (by kernel_rfl) rfl (fun K hK => ?_)
          go_simp
          refine (f49_ok w3 (n := n) (by omega)).mono ?_; rintro e w' ⟨rfl, rfl⟩
          simp only []
          refine hK _ _ (fun _ hS => hS) ?_
          clear hK K
          try simp only [Act.put, List.getElem_toArray, List.getElem_cons_succ, List.getElem_cons_zero, List.setIfInBounds_toArray, List.set_cons_zero, List.set_cons_succ]
          refine Reg.take0 (i := 16) (v := .int .i64 (u2 : Int)) rfl (by kernel_rfl) (by kernel_rfl) (by kernel_rfl) (by kernel_rfl) (fun _ _ _ h => h) (Or.inl ⟨by rfl, ?_⟩) ?_
          · (intro w _; go_simp; try with_reducible rfl)
          try simp only [Act.put, List.getElem_toArray, List.getElem_cons_succ, List.getElem_cons_zero, List.setIfInBounds_toArray, List.set_cons_zero, List.set_cons_succ]
          refine Reg.take0 (i := 17) (v := ?_) rfl (by kernel_rfl) (by kernel_rfl) (by kernel_rfl) (by kernel_rfl) (fun _ _ _ h => h) (Or.inl ⟨by rfl, ?_⟩) ?_
          rotate_left
          · (intro w _; go_simp; try with_reducible rfl)
          try simp only [Act.put, List.getElem_toArray, List.getElem_cons_succ, List.getElem_cons_zero, List.setIfInBounds_toArray, List.set_cons_zero, List.set_cons_succ]
          refine Reg.take0 (i := 18) (v := ?_) rfl (by kernel_rfl) (by kernel_rfl) (by kernel_rfl) (by kernel_rfl) (fun _ _ _ h => h) (Or.inl ⟨by rfl, ?_⟩) ?_
          rotate_left
          · (intro w _; go_simp; try with_reducible rfl)
          try simp only [Act.put, List.getElem_toArray, List.getElem_cons_succ, List.getElem_cons_zero, List.setIfInBounds_toArray, List.set_cons_zero, List.set_cons_succ]
          refine Reg.only (i := 19) (by kernel_rfl) rfl (fun K hK => ?_)
          go_simp
          refine hK _ _ (fun hb => absurd hb (by decide)) ?_
          clear hK K
          try simp only [Act.put, List.getElem_toArray, List.getElem_cons_succ, List.getElem_cons_zero, List.setIfInBounds_toArray, List.set_cons_zero, List.set_cons_succ]
          refine Reg.take0 (i := 20) (v := ?_) rfl (by kernel_rfl) (by kernel_rfl) (by kernel_rfl) (by kernel_rfl) (fun _ _ _ h => h) (Or.inl ⟨by rfl, ?_⟩) ?_
          rotate_left
          · (intro w _; go_simp; try with_reducible rfl)
          try simp only [Act.put, List.getElem_toArray, List.getElem_cons_succ, List.getElem_cons_zero, List.setIfInBounds_toArray, List.set_cons_zero, List.set_cons_succ]
          refine Reg.take0 (i := 21) (v := ?_) rfl (by kernel_rfl) (by kernel_rfl) (by kernel_rfl) (by kernel_rfl) (fun _ _ _ h => h) (Or.inl ⟨by rfl, ?_⟩) ?_
          rotate_left
          · (intro w _; go_simp; try with_reducible rfl)
          try simp only [Act.put, List.getElem_toArray, List.getElem_cons_succ, List.getElem_cons_zero, List.setIfInBounds_toArray, List.set_cons_zero, List.set_cons_succ]
          refine Reg.only (i := 22) (by kernel_rfl) rfl (fun K hK => ?_)
          go_simp
          refine hK _ _ (fun hb => absurd hb (by decide)) ?_
          clear hK K
          try simp only [Act.put, List.getElem_toArray, List.getElem_cons_succ, List.getElem_cons_zero, List.setIfInBounds_toArray, List.set_cons_zero, List.set_cons_succ]
          refine Reg.done (by kernel_rfl) ?_ _
          obtain ⟨_, hc1, _, hrow⟩ := HW3.out.row.tail
          rw [had.out] at hrow
          have O8 : Only (· = R.rg) w3 ((w3.setCell ⟨R.rg, 3, none⟩ (.slice ad (q - 1) (c - 1))).setCell ⟨R.rg, 1, none⟩ (.int .i64 (u2 : Int))) := Only.setCell (S := (· = R.rg)) (Only.setCell (S := (· = R.rg)) (Only.refl _ _) (fun _ => rfl) _) (fun _ => rfl) _
          have HF := ring_read HW3.out (r := r) (rest := rest) (rv' := (.slice ad (q - 1) (c - 1))) rfl h0.out O8 ((HW3.out.thaw.setCell _ _).setCell _ _) (by rw [cell_ne _ (.inr (by decide)), cell_ne _ (.inr (by decide))]; exact HW3.out.c0) (by rw [hu2.out]; exact cell_same _ ((cell_ne _ (.inr (by decide))).trans b1))
            (by rw [cell_ne _ (.inr (by decide)), cell_ne _ (.inr (by decide))]; exact HW3.out.c2) (by rw [cell_ne _ (.inr (by decide))]; exact cell_same _ b3) (by rw [cell_ne _ (.inr (by decide)), cell_ne _ (.inr (by decide))]; exact HW3.out.c4) hrow
            (fun k hk => by rw [← had.out] at hk; by_cases h : c = 1 <;> simp [Value.ownBlock, h] at hk ⊢ <;> exact hk)
          have HF2 : Hid (RingAt B (Given Pr (tk ++ [r]) V') ((w3.setCell ⟨R.rg, 3, none⟩ (.slice ad (q - 1) (c - 1))).setCell ⟨R.rg, 1, none⟩ (.int .i64 (u2 : Int))) { R with rows := rest, rv := (.slice ad (q - 1) (c - 1)) }) := Lib.hid (HF.bar (fun k hk => .inl (H.out.low k hk)) fun k hk => by
            rcases hk with hk | ⟨y, hy, hk⟩ | hk
            · exact .inl (.inl hk)
            · rcases List.mem_append.1 hy with hy | hy
              · exact .inl (.inr (.inl ⟨y, hy, hk⟩))
              · obtain rfl := List.mem_singleton.1 hy; exact .inr hk
            · exact .inl (.inr (.inr hk)))
          have hV8 : Hid (RowAt w.heap.size 30 ((w3.setCell ⟨R.rg, 3, none⟩ (.slice ad (q - 1) (c - 1))).setCell ⟨R.rg, 1, none⟩ (.int .i64 (u2 : Int))) V' (outsOf (tk ++ [r]))) := Lib.hid (hV3.out |>.only O8 fun k hk he => absurd ((hV3.out.own hk).1.inj (he ▸ HW3.out.kind)) (by decide))
          have hO8 : Hid (Only (· = R.rg) w ((w3.setCell ⟨R.rg, 3, none⟩ (.slice ad (q - 1) (c - 1))).setCell ⟨R.rg, 1, none⟩ (.int .i64 (u2 : Int)))) := Lib.hid (hO3.out.trans O8)
          have hrows8 : Hid (R.rows = (tk ++ [r]) ++ rest) := Lib.hid (by rw [hrows.out]; simp)
          have htk8 : Hid (∀ a ∈ tk ++ [r], a.st ≠ 0) := Lib.hid fun a ha => (List.mem_append.1 ha).elim (htk.out a) fun h => by obtain rfl := List.mem_singleton.1 h; exact h0.out
          clear HF hrow O8 b3 b1 b0 z3 z1 HW3 hV3 hO3
          go_wp2_with fail
          go_roundg rest.length
          case measure => rw [hg.out]; simp
          case rel => exact ⟨tk ++ [r], rest, _, Lib.hid rfl, hrows8, htk8, hV8, HF2, hO8⟩
        · go_wp2_with fail
          refine Reg.start (S := (fun w' => w'.cell? ⟨R.rg, 3, none⟩ = some (.slice (some ⟨g, o, none⟩) q c) ∧ w'.cell? ⟨R.rg, 1, none⟩ = some (.int .i64 (u : Int)) ∧ w'.cell? ⟨r.xb, 1, none⟩ = some (.int .i64 (n : Int)))) (B := (fun j => [19, 22].contains j)) (by kernel_rfl) ?_
          have hbd3 : Below wr.heap.size wr wr.drew := (Below.refl _ _).drew
          have HW3 := Lib.hid (HW.out.below hbd3)
          have hV3 := Lib.hid (hV.out.below hbd3)
          have hO3 := Lib.hid (hO.out.drew)
          have b3 : wr.drew.cell? ⟨R.rg, 3, none⟩ = some (.slice (some ⟨g, o, none⟩) q c) := HW3.out.c3
          have b1 : wr.drew.cell? ⟨R.rg, 1, none⟩ = some (.int .i64 (u : Int)) := hu.out ▸ HW3.out.c1
          have b0 : wr.drew.cell? ⟨r.xb, 1, none⟩ = some (.int .i64 (n : Int)) := hn.out ▸ (HW3.out.recs r (by simp)).c1
          have z3 : wr.drew.frozen? ⟨R.rg, 3, none⟩ = false := HW3.out.thaw 3
          have z1 : wr.drew.frozen? ⟨R.rg, 1, none⟩ = false := HW3.out.thaw 1
          revert hbd3 HW3 hV3 hO3 b3 b1 b0 z3 z1
          generalize wr.drew = w3
          intro hbd3 HW3 hV3 hO3 b3 b1 b0 z3 z1
          refine Reg.take0 (i := 0) (v := ?_) rfl (by kernel_rfl) (by kernel_rfl) (by kernel_rfl) (by kernel_rfl) (fun _ _ _ h => h) (Or.inl ⟨by rfl, ?_⟩) ?_
          rotate_left
          · (intro w _; go_simp; try with_reducible rfl)
          try simp only [Act.put, List.getElem_toArray, List.getElem_cons_succ, List.getElem_cons_zero, List.setIfInBounds_toArray, List.set_cons_zero, List.set_cons_succ]
          refine Reg.take0 (i := 1) (v := ?_) rfl (by kernel_rfl) (by kernel_rfl) (by kernel_rfl) (by kernel_rfl) (fun _ _ _ h => h) (Or.inl ⟨by rfl, ?_⟩) ?_
          rotate_left
          · (intro w _; go_simp; try with_reducible rfl)
          try simp only [Act.put, List.getElem_toArray, List.getElem_cons_succ, List.getElem_cons_zero, List.setIfInBounds_toArray, List.set_cons_zero, List.set_cons_succ]
          refine Reg.take0 (i := 2) (v := ?_) rfl (by kernel_rfl) (by kernel_rfl) (by kernel_rfl) (by kernel_rfl) (fun _ _ _ h => h) (Or.inl ⟨by rfl, ?_⟩) ?_
          rotate_left
          · (intro w _; go_simp; try with_reducible rfl)
          try simp only [Act.put, List.getElem_toArray, List.getElem_cons_succ, List.getElem_cons_zero, List.setIfInBounds_toArray, List.set_cons_zero, List.set_cons_succ]
          refine Reg.take0 (i := 3) (v := ?_) rfl (by kernel_rfl) (by kernel_rfl) (by kernel_rfl) (by kernel_rfl) (fun _ _ _ h => h) (Or.inl ⟨by rfl, ?_⟩) ?_
          rotate_left
          · (intro w _; go_simp; try with_reducible rfl)
          try simp only [Act.put, List.getElem_toArray, List.getElem_cons_succ, List.getElem_cons_zero, List.setIfInBounds_toArray, List.set_cons_zero, List.set_cons_succ]
          refine Reg.take0 (i := 4) (v := ?_) rfl (by kernel_rfl) (by kernel_rfl) (by kernel_rfl) (by kernel_rfl) (fun _ _ _ h => h) (Or.inl ⟨by rfl, ?_⟩) ?_
          rotate_left
          · (intro w _; go_simp; try with_reducible rfl)
          try simp only [Act.put, List.getElem_toArray, List.getElem_cons_succ, List.getElem_cons_zero, List.setIfInBounds_toArray, List.set_cons_zero, List.set_cons_succ]
          refine Reg.take1 (i := 5) (v := ?_) rfl (by kernel_rfl) (by kernel_rfl) (by kernel_rfl) (by kernel_rfl) (by kernel_rfl) (fun _ _ _ h => h) (Or.inl ⟨by rfl, ?_⟩) ⟨b3, b1, b0⟩ ?_
          rotate_left
          · (intro w hS; obtain ⟨hs1, hs2, hs3⟩ := hS; go_simp; try with_reducible rfl)
          try simp only [Act.put, List.getElem_toArray, List.getElem_cons_succ, List.getElem_cons_zero, List.setIfInBounds_toArray, List.set_cons_zero, List.set_cons_succ]
          refine Reg.take0 (i := 6) (v := .slice ad (q - 1) (c - 1)) rfl (by kernel_rfl) (by kernel_rfl) (by kernel_rfl) (by kernel_rfl) (fun _ _ _ h => h) (Or.inl ⟨by rfl, ?_⟩) ?_
          · (intro w _; go_simp; try (first | exact had.out | rw [had.out]); try with_reducible rfl)
          try simp only [Act.put, List.getElem_toArray, List.getElem_cons_succ, List.getElem_cons_zero, List.setIfInBounds_toArray, List.set_cons_zero, List.set_cons_succ]
          refine Reg.take0 (i := 7) (v := ?_) rfl (by kernel_rfl) (by kernel_rfl) (by kernel_rfl) (by kernel_rfl) (fun _ _ _ h => h) (Or.inl ⟨by rfl, ?_⟩) ?_
          rotate_left
          · (intro w _; go_simp; try with_reducible rfl)
          try simp only [Act.put, List.getElem_toArray, List.getElem_cons_succ, List.getElem_cons_zero, List.setIfInBounds_toArray, List.set_cons_zero, List.set_cons_succ]
          refine Reg.take0 (i := 8) (v := ?_) rfl (by kernel_rfl) (by kernel_rfl) (by kernel_rfl) (by kernel_rfl) (fun _ _ _ h => h) (Or.inl ⟨by rfl, ?_⟩) ?_
          rotate_left
          · (intro w _; go_simp; try with_reducible rfl)
          try simp only [Act.put, List.getElem_toArray, List.getElem_cons_succ, List.getElem_cons_zero, List.setIfInBounds_toArray, List.set_cons_zero, List.set_cons_succ]
          refine Reg.take0 (i := 9) (v := ?_) rfl (by kernel_rfl) (by kernel_rfl) (by kernel_rfl) (by kernel_rfl) (fun _ _ _ h => h) (Or.inl ⟨by rfl, ?_⟩) ?_
          rotate_left
          · (intro w _; go_simp; try with_reducible rfl)
          try simp only [Act.put, List.getElem_toArray, List.getElem_cons_succ, List.getElem_cons_zero, List.setIfInBounds_toArray, List.set_cons_zero, List.set_cons_succ]
          refine Reg.take1 (i := 10) (v := ?_) rfl (by kernel_rfl) (by kernel_rfl) (by kernel_rfl) (by kernel_rfl) (by kernel_rfl) (fun _ _ _ h => h) (Or.inl ⟨by rfl, ?_⟩) ⟨b3, b1, b0⟩ ?_
          rotate_left
          · (intro w hS; obtain ⟨hs1, hs2, hs3⟩ := hS; go_simp; try with_reducible rfl)
          try simp only [Act.put, List.getElem_toArray, List.getElem_cons_succ, List.getElem_cons_zero, List.setIfInBounds_toArray, List.set_cons_zero, List.set_cons_succ]
          refine Reg.take0 (i := 11) (v := ?_) rfl (by kernel_rfl) (by kernel_rfl) (by kernel_rfl) (by kernel_rfl) (fun _ _ _ h => h) (Or.inl ⟨by rfl, ?_⟩) ?_
          rotate_left
          · (intro w _; go_simp; try with_reducible rfl)
          try simp only [Act.put, List.getElem_toArray, List.getElem_cons_succ, List.getElem_cons_zero, List.setIfInBounds_toArray, List.set_cons_zero, List.set_cons_succ]
          refine Reg.take0 (i := 12) (v := ?_) rfl (by kernel_rfl) (by kernel_rfl) (by kernel_rfl) (by kernel_rfl) (fun _ _ _ h => h) (Or.inl ⟨by rfl, ?_⟩) ?_
          rotate_left
          · (intro w _; go_simp; try with_reducible rfl)
          try simp only [Act.put, List.getElem_toArray, List.getElem_cons_succ, List.getElem_cons_zero, List.setIfInBounds_toArray, List.set_cons_zero, List.set_cons_succ]
          refine Reg.take0 (i := 13) (v := ?_) rfl (by kernel_rfl) (by kernel_rfl) (by kernel_rfl) (by kernel_rfl) (fun _ _ _ h => h) (Or.inl ⟨by rfl, ?_⟩) ?_
          rotate_left
          · (intro w _; go_simp; try with_reducible rfl)
          try simp only [Act.put, List.getElem_toArray, List.getElem_cons_succ, List.getElem_cons_zero, List.setIfInBounds_toArray, List.set_cons_zero, List.set_cons_succ]
          refine Reg.take1 (i := 14) (v := ?_) rfl (by kernel_rfl) (by kernel_rfl) (by kernel_rfl) (by kernel_rfl) (by kernel_rfl) (fun _ _ _ h => h) (Or.inl ⟨by rfl, ?_⟩) ⟨b3, b1, b0⟩ ?_
          rotate_left
          · (intro w hS; obtain ⟨hs1, hs2, hs3⟩ := hS; go_simp; try with_reducible rfl)
          try simp only [Act.put, List.getElem_toArray, List.getElem_cons_succ, List.getElem_cons_zero, List.setIfInBounds_toArray, List.set_cons_zero, List.set_cons_succ]
          refine Reg.only (i := 15) (by kernel_rfl) rfl (fun K hK => ?_)
          go_simp
          refine (f49_ok w3 (n := n) (by omega)).mono ?_; rintro e w' ⟨rfl, rfl⟩
          simp only []
          refine hK _ _ (fun _ hS => hS) ?_
          clear hK K
          try simp only [Act.put, List.getElem_toArray, List.getElem_cons_succ, List.getElem_cons_zero, List.setIfInBounds_toArray, List.set_cons_zero, List.set_cons_succ]
          refine Reg.take0 (i := 16) (v := .int .i64 (u2 : Int)) rfl (by kernel_rfl) (by kernel_rfl) (by kernel_rfl) (by kernel_rfl) (fun _ _ _ h => h) (Or.inl ⟨by rfl, ?_⟩) ?_
          · (intro w _; go_simp; try with_reducible rfl)
          try simp only [Act.put, List.getElem_toArray, List.getElem_cons_succ, List.getElem_cons_zero, List.setIfInBounds_toArray, List.set_cons_zero, List.set_cons_succ]
          refine Reg.take0 (i := 17) (v := ?_) rfl (by kernel_rfl) (by kernel_rfl) (by kernel_rfl) (by kernel_rfl) (fun _ _ _ h => h) (Or.inl ⟨by rfl, ?_⟩) ?_
          rotate_left
          · (intro w _; go_simp; try with_reducible rfl)
          try simp only [Act.put, List.getElem_toArray, List.getElem_cons_succ, List.getElem_cons_zero, List.setIfInBounds_toArray, List.set_cons_zero, List.set_cons_succ]
          refine Reg.take0 (i := 18) (v := ?_) rfl (by kernel_rfl) (by kernel_rfl) (by kernel_rfl) (by kernel_rfl) (fun _ _ _ h => h) (Or.inl ⟨by rfl, ?_⟩) ?_
          rotate_left
          · (intro w _; go_simp; try with_reducible rfl)
          try simp only [Act.put, List.getElem_toArray, List.getElem_cons_succ, List.getElem_cons_zero, List.setIfInBounds_toArray, List.set_cons_zero, List.set_cons_succ]
          refine Reg.only (i := 19) (by kernel_rfl) rfl (fun K hK => ?_)
          go_simp
          refine hK _ _ (fun hb => absurd hb (by decide)) ?_
          clear hK K
          try simp only [Act.put, List.getElem_toArray, List.getElem_cons_succ, List.getElem_cons_zero, List.setIfInBounds_toArray, List.set_cons_zero, List.set_cons_succ]
          refine Reg.take0 (i := 20) (v := ?_) rfl (by kernel_rfl) (by kernel_rfl) (by kernel_rfl) (by kernel_rfl) (fun _ _ _ h => h) (Or.inl ⟨by rfl, ?_⟩) ?_
          rotate_left
          · (intro w _; go_simp; try with_reducible rfl)
          try simp only [Act.put, List.getElem_toArray, List.getElem_cons_succ, List.getElem_cons_zero, List.setIfInBounds_toArray, List.set_cons_zero, List.set_cons_succ]
          refine Reg.take0 (i := 21) (v := ?_) rfl (by kernel_rfl) (by kernel_rfl) (by kernel_rfl) (by kernel_rfl) (fun _ _ _ h => h) (Or.inl ⟨by rfl, ?_⟩) ?_
          rotate_left
          · (intro w _; go_simp; try with_reducible rfl)
          try simp only [Act.put, List.getElem_toArray, List.getElem_cons_succ, List.getElem_cons_zero, List.setIfInBounds_toArray, List.set_cons_zero, List.set_cons_succ]
          refine Reg.only (i := 22) (by kernel_rfl) rfl (fun K hK => ?_)
          go_simp
          refine hK _ _ (fun hb => absurd hb (by decide)) ?_
          clear hK K
          try simp only [Act.put, List.getElem_toArray, List.getElem_cons_succ, List.getElem_cons_zero, List.setIfInBounds_toArray, List.set_cons_zero, List.set_cons_succ]
          refine Reg.done (by kernel_rfl) ?_ _
          obtain ⟨_, hc1, _, hrow⟩ := HW3.out.row.tail
          rw [had.out] at hrow
          have O8 : Only (· = R.rg) w3 ((w3.setCell ⟨R.rg, 3, none⟩ (.slice ad (q - 1) (c - 1))).setCell ⟨R.rg, 1, none⟩ (.int .i64 (u2 : Int))) := Only.setCell (S := (· = R.rg)) (Only.setCell (S := (· = R.rg)) (Only.refl _ _) (fun _ => rfl) _) (fun _ => rfl) _
          have HF := ring_read HW3.out (r := r) (rest := rest) (rv' := (.slice ad (q - 1) (c - 1))) rfl h0.out O8 ((HW3.out.thaw.setCell _ _).setCell _ _) (by rw [cell_ne _ (.inr (by decide)), cell_ne _ (.inr (by decide))]; exact HW3.out.c0) (by rw [hu2.out]; exact cell_same _ ((cell_ne _ (.inr (by decide))).trans b1))
            (by rw [cell_ne _ (.inr (by decide)), cell_ne _ (.inr (by decide))]; exact HW3.out.c2) (by rw [cell_ne _ (.inr (by decide))]; exact cell_same _ b3) (by rw [cell_ne _ (.inr (by decide)), cell_ne _ (.inr (by decide))]; exact HW3.out.c4) hrow
            (fun k hk => by rw [← had.out] at hk; by_cases h : c = 1 <;> simp [Value.ownBlock, h] at hk ⊢ <;> exact hk)
          have HF2 : Hid (RingAt B (Given Pr (tk ++ [r]) u3) ((w3.setCell ⟨R.rg, 3, none⟩ (.slice ad (q - 1) (c - 1))).setCell ⟨R.rg, 1, none⟩ (.int .i64 (u2 : Int))) { R with rows := rest, rv := (.slice ad (q - 1) (c - 1)) }) := Lib.hid (HF.bar (fun k hk => .inl (H.out.low k hk)) fun k hk => by
            rcases hk with hk | ⟨y, hy, hk⟩ | hk
            · exact .inl (.inl hk)
            · rcases List.mem_append.1 hy with hy | hy
              · exact .inl (.inr (.inl ⟨y, hy, hk⟩))
              · obtain rfl := List.mem_singleton.1 hy; exact .inr hk
            · exact .inl (.inr (.inr hk)))
          have hV8 : Hid (RowAt w.heap.size 30 ((w3.setCell ⟨R.rg, 3, none⟩ (.slice ad (q - 1) (c - 1))).setCell ⟨R.rg, 1, none⟩ (.int .i64 (u2 : Int))) u3 (outsOf (tk ++ [r]))) := Lib.hid ((outs_snoc0 (tk := tk) (r := r) h1) ▸ hV3.out |>.only O8 fun k hk he => absurd ((hV3.out.own hk).1.inj (he ▸ HW3.out.kind)) (by decide))
          have hO8 : Hid (Only (· = R.rg) w ((w3.setCell ⟨R.rg, 3, none⟩ (.slice ad (q - 1) (c - 1))).setCell ⟨R.rg, 1, none⟩ (.int .i64 (u2 : Int)))) := Lib.hid (hO3.out.trans O8)
          have hrows8 : Hid (R.rows = (tk ++ [r]) ++ rest) := Lib.hid (by rw [hrows.out]; simp)
          have htk8 : Hid (∀ a ∈ tk ++ [r], a.st ≠ 0) := Lib.hid fun a ha => (List.mem_append.1 ha).elim (htk.out a) fun h => by obtain rfl := List.mem_singleton.1 h; exact h0.out
          clear HF hrow O8 b3 b1 b0 z3 z1 HW3 hV3 hO3
          go_wp2_with fail
          go_roundg rest.length
          case measure => rw [hg.out]; simp
          case rel => exact ⟨tk ++ [r], rest, _, Lib.hid rfl, hrows8, htk8, hV8, HF2, hO8⟩
end Go.Proofs.Ytmjeloinibembaa
